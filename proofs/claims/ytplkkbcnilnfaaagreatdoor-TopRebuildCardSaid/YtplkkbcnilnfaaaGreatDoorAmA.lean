/- The evaluator of the model's code on plain values, with its soundness and its walking rules (part 1). -/
import Derived.Test.YtplkkbcnilnfaaaGreatDoorAl
import Derived.Calls
import Derived.Below
import Derived.WalkKit
set_option linter.all false
namespace Go.Am
noncomputable section
inductive Sc where
 |b (x:Bool)
 |i (k:IntKind) (n:Int)
 |s (x:ByteArray)
inductive PV where
 |bool (b:Bool)
 |int (k:IntKind) (n:Int)
 |str (s:ByteArray)
 |nilp|nils|nilf|nilm|nili
 |ifc (t:TypeId) (x:Sc)
 |ptr (id i r:Nat)
 |ref (id i n m:Nat)
 |map (id:Nat)
 |lst (es:List (List PV))
 |clp (es:List (List PV))
 |box (cs:List PV) (r:Nat)
 |func (f:FuncId) (first caps:List PV)
 |agg (cs:List PV)
 |tup (vs:List PV)
 deriving Inhabited
inductive Mem where
 |row (es:List (List PV)) (z:Nat) (m:Bool)
 |map (es:List (PV×PV))
 |dead
 deriving Inhabited
structure St where
 tm:List (Nat×PV)
 hp:List Mem
inductive Ex where
 |normal
 |exit (id:Nat)
 |ret
 deriving DecidableEq
structure Hints where
 ok:FuncId->Bool
 opn:FuncId->Bool
 mem:FuncId->Bool
 imp:FuncId->Bool
 keep:FuncId->Nat->Option (List Nat×Bool)
 keepB:FuncId->Nat->Option (List Nat×Bool)
 light:FuncId->Nat->List Nat
 perm:FuncId->Nat->List Nat
 frz:TypeId->Bool
 prim:FuncId->Option (List PV->Option PV)
structure Cx where
 fid:Nat
 base:Nat
 N:Nat
def get (tm:List (Nat×PV)) (i:Nat):Option PV:=
 List.rec none (λp _ j=>bif Nat.beq i p.1 then some p.2 else j) tm
def Za4 {α β:Type} (f:α->Option β) (l:List α):Option (List β):=
 List.rec (some []) (λa _ j=>(f a).bind λb=>j.bind λs=>some (b::s)) l
def ZgJ:Value->Option PV
 | .bool b=>some (.bool b)
 | .int k n=>some (.int k n)
 | .string s=>some (.str s)
 | .pointer none=>some .nilp
 | .slice none 0 0=>some .nils
 | .nilFunc=>some .nilf
 | .map none=>some .nilm
 | .nilIface=>some .nili
 |_=>none
def Zqd:Value->Option PV
 | .agg cs=>(Za4 ZgJ cs.toList).map .agg
 |v=>ZgJ v
def Sc.pv:Sc->PV
 | .b x=> .bool x
 | .i k n=> .int k n
 | .s x=> .str x
def Sc.val:Sc->Value
 | .b x=> .bool x
 | .i k n=> .int k n
 | .s x=> .string x
def ZFI:PV->Option Sc
 | .bool x=>some (.b x)
 | .int k n=>some (.i k n)
 | .str x=>some (.s x)
 |_=>none
def ZkK:PV->Option Value
 | .bool b=>some (.bool b)
 | .int k n=>some (.int k n)
 | .str s=>some (.string s)
 | .nilp=>some (.pointer none)
 | .nils=>some (.slice none 0 0)
 | .nilf=>some .nilFunc
 | .nilm=>some (.map none)
 | .nili=>some .nilIface
 |_=>none
def cellsOf:PV->List PV
 | .agg cs=>cs
 |v=> [v]
def Zjo:PV->Option PV
 | .tup _=>none
 |v=>some v
def ev (tm:List (Nat×PV)):Operand->Option PV
 | .tmp t=>get tm t
 | .const v=>Zqd v
 | .func f=>some (.func f [] [])
 | .global _=>none
def Zbe (P:Program) (t:TypeId):Option Nat:=(P.info? t).map (·.size)
def Zj4 (P:Program) (t:TypeId):Option Nat:=(P.info? t).map (·.bytes)
def ZuW (P:Program) (t:TypeId):Option Bool:=
 match P.underlying t with
 |some (.struct _)|some (.array _ _)=>some true
 |some _=>some false
 |none=>none
def ZjX (P:Program) (t:TypeId):Option TypeId:=
 match P.underlying t with
 |some (.slice e)=>some e
 |_=>none
def ZdO (P:Program) (t:TypeId):Option (List PV):=
 match(P.info? t)with
 |some i=>match i.zero with
  |some v=>Za4 ZgJ v.cells.toList
  |none=>none
 |none=>none
def Zd8 (P:Program) (t:TypeId):Option PV:=
 match(P.info? t)with
 |some i=>match i.zero with
  |some v=>Zqd v
  |none=>none
 |none=>none
def ZdU (P:Program) (t:TypeId) (cs:List PV) (off:Nat):Option PV:=
 match ZuW P t with
 |some true=>(Zbe P t).bind λn=>if off+n<=cs.length then some (.agg ((cs.drop off).take n))else none
 |some false=>cs[off]?
 |none=>none
def splice {α:Type} (l:List α) (off:Nat) (cs:List α):List α:=l.take off++(cs++l.drop (off+cs.length))
def Ziz {α:Type} (P:Program):Sem α->Option α
 | .pure a=>some a
 | .program k=>Ziz P (k P)
 |_=>none
def Zkh (op:BinOp) (k:IntKind) (a:Int) (k':IntKind) (b:Int):Option PV:=
 match op with
 | .shl=>if b<0 then none else some (.int k (k.wrap (a*2^(min b.toNat k.bits))))
 | .shr=>if b<0 then none else some (.int k (a.fdiv (2^(min b.toNat k.bits))))
 | .add=>if k=k' then some (.int k (k.wrap (a+b)))else none
 | .sub=>if k=k' then some (.int k (k.wrap (a-b)))else none
 | .mul=>if k=k' then some (.int k (k.wrap (a*b)))else none
 | .quo=>if k=k' then if b=0 then none else some (.int k (k.wrap (a.tdiv b)))else none
 | .rem=>if k=k' then if b=0 then none else some (.int k (a.tmod b))else none
 | .and=>if k=k' then some (.int k (k.wrap (BitVec.ofInt k.bits a&&&BitVec.ofInt k.bits b).toNat))else none
 | .or=>if k=k' then some (.int k (k.wrap (BitVec.ofInt k.bits a|||BitVec.ofInt k.bits b).toNat))else none
 | .xor=>if k=k' then some (.int k (k.wrap (BitVec.ofInt k.bits a^^^BitVec.ofInt k.bits b).toNat))else none
 | .andNot=>if k=k' then some (.int k (k.wrap (BitVec.ofInt k.bits a&&& ~~~ (BitVec.ofInt k.bits b)).toNat))else none
 | .eql=>if k=k' then some (.bool (a==b))else none
 | .neq=>if k=k' then some (.bool (a !=b))else none
 | .lss=>if k=k' then some (.bool (decide (a<b)))else none
 | .leq=>if k=k' then some (.bool (decide (a<=b)))else none
 | .gtr=>if k=k' then some (.bool (decide (a>b)))else none
 | .geq=>if k=k' then some (.bool (decide (a≥b)))else none
def ZpA (op:BinOp) (a b:ByteArray):Option PV:=
 match op with
 | .add=>if a.size+b.size<=9223372036854775807 then some (.str (a++b))else none
 | .eql=>some (.bool (a.data.toList==b.data.toList))
 | .neq=>some (.bool (!(a.data.toList==b.data.toList)))
 | .lss=>some (.bool (Op.bytesLess a.data.toList b.data.toList))
 | .leq=>some (.bool (Op.bytesLess a.data.toList b.data.toList||a.data.toList==b.data.toList))
 | .gtr=>some (.bool (!(Op.bytesLess a.data.toList b.data.toList||a.data.toList==b.data.toList)))
 | .geq=>some (.bool (!Op.bytesLess a.data.toList b.data.toList))
 |_=>none
def ZnL (P:Program) (t:TypeId):Bool:=match P.underlying t with|some .bool=>true|_=>false
def Zp3 (op:BinOp) (r:Bool):Option PV:=
 match op with
 | .eql=>some (.bool r)
 | .neq=>some (.bool (!r))
 |_=>none
def ZAR (P:Program) (t:TypeId) (xs ys:List PV):Option Bool:=
 (Za4 ZkK xs).bind λa=>(Za4 ZkK ys).bind λb=>
  if P.eqGuardType P.depth t then none else Ziz P (Op.equal t (.agg a.toArray) (.agg b.toArray))
def Zi8 (P:Program) (t:TypeId):Bool:=match P.underlying t with|some (.pointer _)=>true|_=>false
def Zc7 (P:Program) (t:TypeId):Bool:=match P.underlying t with|some (.slice _)=>true|_=>false
def Zhj (P:Program) (op:BinOp) (t:TypeId) (x y:PV):Option PV:=
 match x,y with
 | .int k a, .int k' b=>Zkh op k a k' b
 | .str a, .str b=>ZpA op a b
 | .bool a, .bool b=>if ZnL P t then Zp3 op (a==b)else none
 | .agg xs, .agg ys=>(ZAR P t xs ys).bind (Zp3 op)
 | .nils, .nils=>if Zc7 P t then Zp3 op true else none
 | .ref _ _ _ _, .nils=>if Zc7 P t then Zp3 op false else none
 | .lst _, .nils=>if Zc7 P t then Zp3 op false else none
 | .nilp, .nilp=>if Zi8 P t then Zp3 op true else none
 | .ptr _ _ _, .nilp=>if Zi8 P t then Zp3 op false else none
 | .box _ _, .nilp=>if Zi8 P t then Zp3 op false else none
 |_,_=>none
def ZHi (op:UnOp) (x:PV):Option PV:=
 match op,x with
 | .neg, .int k n=>some (.int k (k.wrap (0-n)))
 | .not, .bool b=>some (.bool (!b))
 | .xor, .int k n=>some (.int k (k.wrap (BitVec.ofInt k.bits (if k.signed then-1 else k.max)^^^BitVec.ofInt k.bits n).toNat))
 |_,_=>none
def byteCells (s:ByteArray):List (List PV):=s.data.toList.map λb=> [.int .u8 b.toNat]
def bytesOf:List (List PV)->Option (List UInt8)
 | []=>some []
 | [.int .u8 n]::r=>(bytesOf r).map (UInt8.ofNat n.toNat:: ·)
 |_=>none
def elems (H:List Mem):PV->Option (List (List PV))
 | .nils=>some []
 | .lst es=>some es
 | .ref id i n _=>match H[id]? with
  |some (.row es _ _)=>if i+n<=es.length then some ((es.drop i).take n)else none
  |_=>none
 |_=>none
def Zdp (P:Program) (H:List Mem) (src dst:TypeId) (x:PV):Option PV:=
 match P.underlying src,P.underlying dst,x with
 |some _,some (.int k), .int _ n=>some (.int k (k.wrap n))
 |some _,some .string, .str s=>some (.str s)
 |some _,some .string, .int _ n=>if 0<=n/\n<128 then some (.str ⟨#[UInt8.ofNat n.toNat]⟩)else none
 |some .string,some (.slice e), .str s=>match P.underlying e with
  |some (.int .u8)=>some (.lst (byteCells s))
  |_=>none
 |some (.slice e),some .string,x=>match P.underlying e with
  |some (.int .u8)=>(elems H x).bind λes=>(bytesOf es).map λl=> .str ⟨l.toArray⟩
  |_=>none
 |_,_,_=>none
def Zdd (es:List (List PV)) (z:Nat):Bool:=match es with| []=>true|c::_=>c.length==z
def bHi (n:Nat) (hi:Option PV):Option Nat:=
 match hi with
 |none=>some n
 |some (.int _ h)=>if 0<=h/\h<=n then some h.toNat else none
 |some _=>none
def bLo (h:Nat) (lo:Option PV):Option Nat:=
 match lo with
 |none=>some 0
 |some (.int _ l)=>if 0<=l/\l<=h then some l.toNat else none
 |some _=>none
def Zfz (n:Nat) (lo hi:Option PV):Option (Nat×Nat):=
 (bHi n hi).bind λh=>(bLo h lo).bind λl=>some (l,h)
def ZyG (n m:Nat) (hi:Option PV):Option Nat:=
 match hi with
 |none=>some n
 |some (.int _ h)=>if 0<=h/\h<=m then some h.toNat else none
 |some _=>none
def bMx (h m:Nat) (j:Option PV):Option Nat:=
 match j with
 |none=>some m
 |some (.int _ x)=>if h<=x/\x<=m then some x.toNat else none
 |some _=>none
def Zb0 (n m:Nat) (lo hi j:Option PV):Option (Nat×Nat×Nat):=
 if j.isSome&&hi.isNone then none else
 (ZyG n m hi).bind λh=>(bLo h lo).bind λl=>(bMx h m j).bind λx=>some (l,h,x)
def ZxH (j:Option PV) (h x:Nat) (es:List (List PV)):PV:=match j with
 |some _=>bif Nat.beq h x then .clp es else .lst es
 |none=> .lst es
def ZbV (P:Program) (H:List Mem) (t:TypeId) (x:PV) (lo hi j:Option PV):Option PV:=
 match P.underlying t,x with
 |some .string, .str s=>match j with
  |none=>(Zfz s.size lo hi).map λ(l,h)=> .str (s.extract l h)
  |some _=>none
 |some (.slice e), .lst es=>(Zbe P e).bind λz=>(Zb0 es.length es.length lo hi j).bind λ(l,h,x)=>
  if Zdd es z then some (ZxH j h x ((es.take h).drop l))else none
 |some (.slice e), .ref id i n m=>(Zbe P e).bind λz=>(Zb0 n m lo hi j).bind λ(l,h,x)=>
  match H[id]? with
  |some (.row _ z' _)=>if z'=z then some (.ref id (i+l) (h-l) (x-l))else none
  |_=>none
 |some (.slice e), .nils=>(Zbe P e).bind λ_=>(Zb0 0 0 lo hi j).map λ_=> .nils
 |_,_=>none
def fieldAt (P:Program) (s:TypeId) (f:Nat):Option (Nat×TypeId):=
 match P.underlying s with
 |some (.struct j)=>(j[f]?).map λx=>(x.offset,x.type)
 |_=>none
def ZcX (P:Program) (s:TypeId) (x:PV) (f:Nat):Option PV:=
 (fieldAt P s f).bind λ(off,j)=>
  match Zbe P j with
  |some 0=>none
  |some _=>match x with
   | .ptr id i r=>some (.ptr id i (r+off))
   | .box cs r=>some (.box cs (r+off))
   |_=>none
  |none=>none
def Zk1 (P:Program) (s:TypeId) (x:PV) (f:Nat):Option PV:=
 (fieldAt P s f).bind λ(off,j)=>match x with
  | .agg cs=>ZdU P j cs off
  |_=>none
def Zao (P:Program) (H:List Mem) (t:TypeId) (x C:PV):Option PV:=
 match C with
 | .int _ j=>
  match P.underlying t,x with
  |some (.slice e), .lst es=>(Zbe P e).bind λz=>
   if 0<=j/\j<es.length then(es[j.toNat]?).bind λc=>if c.length=z then some (.box c 0)else none else none
  |some (.slice e), .ref id i n _=>(Zbe P e).bind λz=>
   if 0<=j/\j<n then
    match H[id]? with
    |some (.row _ z' _)=>if z'=z then some (.ptr id (i+j.toNat) 0)else none
    |_=>none
   else none
  |some (.array n e), .ptr id i r=>(Zbe P e).bind λz=>if 0<=j/\j<n then some (.ptr id i (r+j.toNat*z))else none
  |some (.array n e), .box cs r=>(Zbe P e).bind λz=>if 0<=j/\j<n then some (.box cs (r+j.toNat*z))else none
  |_,_=>none
 |_=>none
def ZiE (P:Program) (t:TypeId) (x C:PV):Option PV:=
 match C with
 | .int _ j=>
  match P.underlying t,x with
  |some (.array n e), .agg cs=>(Zbe P e).bind λz=>if 0<=j/\j<n then ZdU P e cs (j.toNat*z)else none
  |some .string, .str s=>if 0<=j then(s.data.toList[j.toNat]?).map λb=> .int .u8 b.toNat else none
  |_,_=>none
 |_=>none
def Zb2 (P:Program) (H:List Mem) (t:TypeId) (x:PV):Option PV:=
 match x with
 | .ptr id i r=>match H[id]? with
  |some (.row es _ _)=>(es[i]?).bind λc=>ZdU P t c r
  |_=>none
 | .box c r=>ZdU P t c r
 |_=>none
def ZeS (P:Program) (H:List Mem) (t:TypeId) (x:PV):Option PV:=
 match P.underlying t,x with
 |some .string, .str s=>some (.int .i64 s.size)
 |some (.array n _),_=>some (.int .i64 n)
 |some (.slice _), .nils=>some (.int .i64 0)
 |some (.slice _), .lst es=>some (.int .i64 es.length)
 |some (.slice _), .ref _ _ n _=>some (.int .i64 n)
 |some (.map _ _), .nilm=>some (.int .i64 0)
 |some (.map _ _), .map id=>match H[id]? with
  |some (.map es)=>some (.int .i64 es.length)
  |_=>none
 |_,_=>none
def min2 (x y:PV):Option PV:=match x,y with
 | .int k a, .int k' b=>if k=k' then some (.int k (if b<a then b else a))else none
 |_,_=>none
def max2 (x y:PV):Option PV:=match x,y with
 | .int k a, .int k' b=>if k=k' then some (.int k (if b>a then b else a))else none
 |_,_=>none
def Zjq (f:PV->PV->Option PV):List PV->PV->Option PV
 | [],a=>some a
 |b::r,a=>(f a b).bind (Zjq f r)
inductive Ky where
 |s (b:ByteArray)
 |i (k:IntKind) (n:Int)
def keyOf:PV->Option Ky
 | .str s=>some (.s s)
 | .int k n=>some (.i k n)
 |_=>none
def Ky.pv:Ky->PV
 | .s b=> .str b
 | .i k n=> .int k n
def ZDs:Ky->PV->Option Bool
 | .s b, .str s=>some (b.data.toList==s.data.toList)
 | .i k n, .int k' m=>if k=k' then some (n==m)else none
 |_,_=>none
def Zfy:Ky->TypeDesc->Bool
 | .s _, .string=>true
 | .i _ _, .int _=>true
 |_,_=>false
def ZdM (k:Ky):List (PV×PV)->Option (Option PV)
 | []=>some none
 |(q,v)::r=>(ZDs k q).bind λb=>bif b then some (some v)else ZdM k r
def Zdq (k:Ky) (v:PV):List (PV×PV)->Option (List (PV×PV))
 | []=>some [(k.pv,v)]
 |(q,u)::r=>(ZDs k q).bind λb=>bif b then some ((k.pv,v)::r)else(Zdq k v r).map ((q,u):: ·)
def Zim (P:Program) (t:TypeId):Option (TypeDesc×TypeId):=
 match P.underlying t with
 |some (.map k e)=>match P.underlying k with
  |some .string=>some (.string,e)
  |some (.int i)=>some (.int i,e)
  |_=>none
 |_=>none
def Zm7 (H:List Mem):PV->Option (List (PV×PV))
 | .nilm=>some []
 | .map id=>match H[id]? with
  |some (.map es)=>some es
  |_=>none
 |_=>none
def Zec (P:Program) (H:List Mem) (t:TypeId) (x k:PV) (ok:Bool):Option PV:=
 (Zim P t).bind λe=>(keyOf k).bind λkey=>bif Zfy key e.1 then(Zm7 H x).bind λes=>(ZdM key es).bind λr=>(Zd8 P e.2).bind λzero=>
 some (if ok then .tup [r.getD zero, .bool r.isSome]else r.getD zero)else none
def Zdn (place:Nat->Option (Nat×Nat)):List PV->List (Nat×PV)->Option (List PV)
 |cs,[]=>some cs
 |cs,(i,v)::r=>(place i).bind λ(off,n)=>
  if(cellsOf v).length=n/\off+n<=cs.length then Zdn place (splice cs off (cellsOf v)) r else none
def Zdo (z:Nat):List (List PV)->List (Nat×PV)->Option (List (List PV))
 |es,[]=>some es
 |es,(i,v)::r=>if(cellsOf v).length=z/\i<es.length then Zdo z (es.set i (cellsOf v)) r else none
def ZgS (ρ:Operand->Option PV) (parts:Array (Nat×Operand)):Option (List (Nat×PV)):=
 Za4 (λx=>((ρ x.2).bind Zjo).map λv=>(x.1,v)) parts.toList
def ZiK (P:Program) (t:TypeId) (parts:List (Nat×PV)):Option PV:=
 (ZdO P t).bind λzero=>
 match P.underlying t with
 |some (.struct j)=>(Zdn (λi=>(j[i]?).bind λf=>(Zbe P f.type).map λn=>(f.offset,n)) zero parts).bind λcs=>
  (Za4 (λf=>Zbe P f.type) j.toList).map λ_=> .agg cs
 |some (.array _ e)=>(Zbe P e).bind λn=>(Zdn (λi=>some (i*n,n)) zero parts).map .agg
 |_=>none
def ZbK (P:Program) (t:TypeId) (len:Nat) (parts:List (Nat×PV)):Option Mem:=
 (ZjX P t).bind λe=>(Zbe P e).bind λz=>(ZdO P e).bind λzero=>
  if(0<len\/parts=[])/\0<z/\zero.length=z/\len*z<=16777216 then(Zdo z (List.replicate len zero) parts).map λes=> .row es z true else none
def Zgk (P:Program) (t:TypeId) (len cap:PV):Option (Mem×Nat×Nat):=
 match len,cap with
 | .int _ l, .int _ c=>(ZjX P t).bind λe=>(Zbe P e).bind λz=>(Zj4 P e).bind λby_=>(ZdO P e).bind λzero=>
  if 0<=l/\l<=c/\by_*c<=281474976710656/\c<9223372036854775808/\0<z/\zero.length=z then
   some (.row (List.replicate c.toNat zero) z true,l.toNat,c.toNat)else none
 |_,_=>none
def ZaP:Nat:=40
def exp:Nat->List Mem->PV->Option PV
 |0,_,_=>none
 |n+1,H,v=>match v with
  | .ref id i l _=>match H[id]? with
   |some (.row es _ _)=>if i+l<=es.length then(Za4 (Za4 (exp n H)) ((es.drop i).take l)).map .lst else none
   |_=>none
  | .ptr id i r=>match H[id]? with
   |some (.row es _ _)=>(es[i]?).bind λc=>(Za4 (exp n H) c).map λq=> .box q r
   |_=>none
  | .map _=>none
  | .func f a c=>(Za4 (exp n H) a).bind λj=>(Za4 (exp n H) c).map λC=> .func f j C
  | .agg cs=>(Za4 (exp n H) cs).map .agg
  | .tup vs=>(Za4 (exp n H) vs).map .tup
  |v=>some v
def rch:Nat->List Mem->PV->List Nat
 |0,_,_=> []
 |n+1,H,v=>match v with
  | .ref id i l _=>match H[id]? with
   |some (.row es _ _)=>id::((es.drop i).take l).flatMap λc=>c.flatMap (rch n H)
   |_=> []
  | .ptr id i _=>match H[id]? with
   |some (.row es _ _)=>id::((es[i]?).getD []).flatMap (rch n H)
   |_=> []
  | .func _ a c=>a.flatMap (rch n H)++c.flatMap (rch n H)
  | .agg cs=>cs.flatMap (rch n H)
  | .tup vs=>vs.flatMap (rch n H)
  |_=> []
def freeze1 (H:List Mem) (id:Nat):List Mem:=
 match H[id]? with
 |some (.row es z _)=>H.set id (.row es z false)
 |_=>H
def freeze (ids:List Nat) (H:List Mem):List Mem:=ids.foldl freeze1 H
def ZhV:PV->Bool
 | .bool _| .int _ _| .str _| .nilp| .nils| .nilf| .nilm| .nili| .ifc _ _=>true
 | .lst es=>es.isEmpty
 | .agg cs=>cs.all λc=>match c with| .bool _| .int _ _| .str _| .nilp| .nils| .nilf| .nilm| .nili| .ifc _ _=>true| .lst es=>es.isEmpty|_=>false
 | .tup vs=>vs.all λc=>match c with
  | .bool _| .int _ _| .str _| .nilp| .nils| .nilf| .nilm| .nili| .ifc _ _=>true
  | .lst es=>es.isEmpty
  | .agg cs=>cs.all λc=>match c with| .bool _| .int _ _| .str _| .nilp| .nils| .nilf| .nilm| .nili| .ifc _ _=>true| .lst es=>es.isEmpty|_=>false
  |_=>false
 |_=>false
def Zpi (tm:List (Nat×PV)):List Nat->List (Nat×PV)
 | []=> []
 |k::r=>match get tm k with
  |some v=>(k,v)::Zpi tm r
  |none=>Zpi tm r
def Zgw:PV->Bool
 | .ref _ _ _ _| .ptr _ _ _| .map _=>false
 | .func _ a c=>a.isEmpty&&c.isEmpty
 | .agg cs=>cs.all λc=>match c with| .ref _ _ _ _| .ptr _ _ _| .map _| .agg _| .tup _| .func _ _ _=>false|_=>true
 | .tup vs=>vs.isEmpty
 |_=>true
def Zgz:Mem->Bool
 | .row es _ _=>es.all λc=>c.all Zgw
 | .map es=>es.all λ(k,v)=>Zgw k&&Zgw v
 | .dead=>false
def Zcz:PV->List Nat
 | .ref id _ _ _| .ptr id _ _| .map id=> [id]
 |_=> []
def Zb8:PV->List Nat
 | .agg cs=>cs.flatMap Zcz
 | .func _ a c=>a.flatMap Zcz++c.flatMap Zcz
 |v=>Zcz v
def Zen:PV->Bool
 | .agg _| .tup _| .func _ _ _=>false
 |_=>true
def ZbA:PV->Bool
 | .agg cs=>cs.all Zen
 | .func _ a c=>a.all Zen&&c.all Zen
 | .tup vs=>vs.isEmpty
 |_=>true
def Zb6 (l:List Nat) (i:Nat):List Nat:=if l.contains i then l else l++ [i]
def pos (i:Nat):List Nat->Nat
 | []=>0
 |j::r=>bif Nat.beq i j then 0 else pos i r+1
def Zlo (l:List Nat):PV->PV
 | .ref id i n m=> .ref (pos id l) i n m
 | .ptr id i r=> .ptr (pos id l) i r
 | .map id=> .map (pos id l)
 |v=>v
def ren (l:List Nat):PV->PV
 | .agg cs=> .agg (cs.map (Zlo l))
 | .func f a c=> .func f (a.map (Zlo l)) (c.map (Zlo l))
 |v=>Zlo l v
def ZmR (m:Mem):List Nat:=bif Zgz m then[]else match m with
 | .row es _ _=>es.flatMap λc=>c.flatMap Zb8
 | .map es=>es.flatMap λx=>Zb8 x.1++Zb8 x.2
 | .dead=> []
def okM (m:Mem):Bool:=bif Zgz m then true else match m with
 | .row es _ _=>es.all λc=>c.all ZbA
 | .map es=>es.all λx=>ZbA x.1&&ZbA x.2
 | .dead=>true
def Zns (l:List Nat) (m:Mem):Mem:=bif Zgz m then m else match m with
 | .row es z m=> .row (es.map λc=>c.map (ren l)) z m
 | .map es=> .map (es.map λx=>(ren l x.1,ren l x.2))
 | .dead=> .dead
def ZmE (H:List Mem) (i:Nat):List Nat:=match H[i]? with|some m=>ZmR m|none=> []
def Zfb (H:List Mem):Nat->List Nat->List Nat
 |0,ids=>ids
 |n+1,ids=>Zfb H n ((ids.flatMap (ZmE H)).foldl Zb6 ids)
def Zer (tm:List (Nat×PV)) (H:List Mem):Option St:=
 let ids:=Zfb H 3 ((tm.flatMap λx=>Zb8 x.2).foldl Zb6 [])
 if tm.all (λx=>ZbA x.2)then
  (Za4 (λi=>(H[i]?).bind λm=>if okM m&&(ZmR m).all ids.contains then some (Zns ids m)else none) ids).map λH'=>⟨tm.map λx=>(x.1,ren ids x.2),H'⟩
 else none
def enterT:Nat->List PV->List (Nat×PV)
 |_,[]=> []
 |i,v::r=>(i,v)::enterT (i+1) r
def sh1 (b:Nat):PV->PV
 | .ref id i n m=> .ref (b+id) i n m
 | .ptr id i r=> .ptr (b+id) i r
 | .map id=> .map (b+id)
 |v=>v
def sh (b:Nat):PV->PV
 | .agg cs=> .agg (cs.map (sh1 b))
 | .func f a c=> .func f (a.map (sh1 b)) (c.map (sh1 b))
 |v=>sh1 b v
def shM (b:Nat):Mem->Mem
 | .row es z m=> .row (es.map λc=>c.map (sh b)) z m
 | .map es=> .map (es.map λx=>(sh b x.1,sh b x.2))
 | .dead=> .dead
def ZAV:Mem->Bool
 | .row es _ _=>es.all λc=>c.all ZbA
 | .map es=>es.all λx=>ZbA x.1&&ZbA x.2
 | .dead=>true
def Zio:PV->Bool
 | .lst es=>es.isEmpty
 | .box _ _| .agg _| .func _ _ _| .tup _| .clp _=>false
 |_=>true
def Zdv:PV->Bool
 | .agg cs=>cs.all Zio
 | .func _ a c=>a.all Zio&&c.all Zio
 |v=>Zio v
def ZnQ:Mem->Bool
 | .row es _ _=>es.all λc=>c.all Zdv
 | .map es=>es.all λx=>Zdv x.1&&Zdv x.2
 | .dead=>true
def Zbg:PV->List PV
 | .tup vs=>vs
 |v=> [v]
def Zhr:PV->List PV->PV
 | .tup _,vs=> .tup vs
 |_,v::_=>v
 |v,[]=>v
structure Ev where
 ex:Cx->Code->St->Option (Ex×St)
 rn:FuncId->List PV->List Mem->Option (PV×List Mem)
section
variable (P:Program) (h:Hints) (E:Ev)
def ZbT (f:FuncId) (qs:List PV):Option PV:=
 match h.prim f with
 |some g=>(g qs).bind λv=>exp ZaP [] v
 |none=>(E.rn f qs []).bind λx=>exp ZaP x.2 x.1
def Zdj (f:FuncId) (qs:List PV) (base:Nat):Option (PV×List Mem×Bool):=
 (E.rn f qs []).bind λx=>(Zer (enterT 0 (Zbg x.1)) x.2).bind λst=>
 if(st.tm.all λy=>ZbA y.2)&&st.hp.all ZAV then
  some (Zhr x.1 (st.tm.map λy=>sh base y.2),st.hp.map (shM base),(st.tm.all λy=>Zdv y.2)&&st.hp.all ZnQ)
 else none
def ZqL (f:FuncId) (args qs:List PV) (H:List Mem):Option (PV×List Mem×List Nat):=
 (ZbT h E f qs).bind λq=>
 if h.mem f then some (q,[],args.flatMap (rch ZaP H))else if ZhV q then some (q,[],[])else none
def ZCu (f:FuncId) (args qs:List PV) (H:List Mem) (base:Nat):Option (PV×List Mem×List Nat):=
 (Zdj E f qs base).map λr=>(r.1,r.2.1,bif r.2.2 then[]else args.flatMap (rch ZaP H))
def Zhv (f:FuncId) (args:List PV) (H:List Mem) (base:Nat):Option (PV×List Mem×List Nat):=
 (Za4 (exp ZaP H) args).bind λqs=>bif h.imp f then ZCu E f args qs H base else ZqL h E f args qs H
def ZbN (H:List Mem) (b:Builtin) (ts:Array TypeId) (args:List PV):Option PV:=
 match b,args with
 | .len,[x]=>(ts[0]?).bind λt=>ZeS P H t x
 | .min,x::r=>Zjq min2 r x
 | .max,x::r=>Zjq max2 r x
 |_,_=>none
def val (v:Option PV):Option (PV×List Mem×List Nat):=v.map λv=>(v,[],[])
abbrev Res:=Option (PV×List Mem×List Nat)
def Zuv (ρ:Operand->Option PV) (c a b:Operand):Option PV:=(ρ c).bind λt=>match t with| .bool t=>if t then ρ a else ρ b|_=>none
def Zo8 (base:Nat) (t:TypeId):Res:=(ZdO P t).map λcs=>(.ptr base 0 0,[Mem.row [cs] cs.length true],[])
def ZE9 (base:Nat) (v:Option PV):Res:=(v.bind Zjo).map λv=>(.ptr base 0 0,[Mem.row [cellsOf v] (cellsOf v).length true],[])
def Zl6 (ρ:Operand->Option PV) (t:TypeId) (parts:Array (Nat×Operand)):Option PV:=(ZgS ρ parts).bind λps=>ZiK P t ps
def Zcc (base:Nat) (ρ:Operand->Option PV) (t:TypeId) (n:Nat) (parts:Array (Nat×Operand)):Res:=
 (ZgS ρ parts).bind λps=>(ZbK P t n ps).map λm=>(.ref base 0 n n,[m],[])
def Zlg (H:List Mem) (t:TypeId) (v:Option PV):Option PV:=v.bind λp=>Zb2 P H t p
def ZdT (v:Option PV):Option PV:=v.bind λp=>match p with
 | .ptr _ _ _| .box _ _| .func _ _ _=>some p
 |_=>none
def ZHq (op:BinOp) (t:TypeId) (x y:Option PV):Option PV:=x.bind λa=>y.bind λb=>Zhj P op t a b
def Zpl (t:TypeId):Bool:=match P.underlying t with|some (.interface _)=>true|_=>false
def ZGY (op:BinOp) (t:TypeId) (y:Operand) (x:Option PV):Option PV:=match y,x with
 | .const .nilIface,some .nili=>bif Zpl P t then Zp3 op true else none
 | .const .nilIface,some (.ifc _ _)=>bif Zpl P t then Zp3 op false else none
 |_,_=>none
def ZqE (op:BinOp) (t:TypeId) (y:Operand) (u v:Option PV):Option PV:=match ZHq P op t u v with
 |some r=>some r
 |none=>ZGY P op t y u
def aUn (op:UnOp) (x:Option PV):Option PV:=x.bind λa=>ZHi op a
def ZwD (H:List Mem) (s d:TypeId) (x:Option PV):Option PV:=x.bind λa=>Zdp P H s d a
def ZtZ (ρ:Operand->Option PV) (fn:Fn) (first j:Array Operand):Option PV:=
 match fn with
 | .func f=>(Za4 ρ first.toList).bind λa=>(Za4 ρ j.toList).map λc=> .func f a c
 |_=>none
def Zed (base:Nat) (t:TypeId) (r:Option Operand):Res:=
 match r with
 |none=>(Zim P t).map λ_=>(.map base,[Mem.map []],[])
 |some _=>none
def Zc0 (base:Nat) (t:TypeId) (l c:Option PV):Res:=
 l.bind λl=>c.bind λc=>(Zgk P t l c).map λg=>(.ref base 0 g.2.1 g.2.2,[g.1],[])
def ZpS (ρ:Operand->Option PV) (x:Option Operand):Option (Option PV):=match x with|none=>some none|some l=>(ρ l).map some
def Zcg (H:List Mem) (ρ:Operand->Option PV) (t:TypeId) (x:Operand) (lo hi j:Option Operand):Option PV:=
 (ρ x).bind λv=>(ZpS ρ lo).bind λl=>(ZpS ρ hi).bind λk=>(ZpS ρ j).bind λm=>ZbV P H t v l k m
def Zgr (s:TypeId) (v:Option PV) (f:Nat):Option PV:=v.bind λv=>ZcX P s v f
def Ztt (s:TypeId) (v:Option PV) (f:Nat):Option PV:=v.bind λv=>Zk1 P s v f
def Za5 (H:List Mem) (t:TypeId) (v j:Option PV):Option PV:=v.bind λv=>j.bind λj=>Zao P H t v j
def Zsp (t:TypeId) (v j:Option PV):Option PV:=v.bind λv=>j.bind λj=>ZiE P t v j
def Zg0 (H:List Mem) (t:TypeId) (v j:Option PV) (ok:Bool):Option PV:=v.bind λv=>j.bind λj=>Zec P H t v j ok
def notIfc (P:Program) (t:TypeId):Bool:=
 match P.underlying t with
 |some (.interface _)=>false
 |some _=>true
 |none=>false
def Zhp (t:TypeId) (v:Option PV):Option PV:=v.bind λv=>bif notIfc P t then(ZFI v).map (.ifc t)else none
def Zg9 (v:Option PV) (u:TypeId) (ok:Bool):Option PV:=v.bind λ_=>(λ_=>none) P
def Zel (v:Option PV) (i:Nat):Option PV:=v.bind λv=>match v with| .tup vs=>vs[i]? |_=>none
def Zcq (H:List Mem) (ρ:Operand->Option PV) (b:Builtin) (c:Call):Option PV:=(Za4 ρ c.args.toList).bind λvs=>ZbN P H b c.argTypes vs
def ZfM (H:List Mem) (base:Nat) (ρ:Operand->Option PV) (f:FuncId) (c:Call):Res:=
 if h.opn f then none else(Za4 ρ c.args.toList).bind λvs=>Zhv h E f vs H base
def Zjb (H:List Mem) (base:Nat) (ρ:Operand->Option PV) (c:Call):Res:=
 match c.callee with
 | .builtin b=>val (Zcq P H ρ b c)
 | .value (.func f)=>ZfM h E H base ρ f c
 |_=>none
def opR (H:List Mem) (base:Nat) (ρ:Operand->Option PV) (o:Oper):Res:=
 match o.op with
 | .move x=>val (ρ x)
 | .assign x=>val (ρ x)
 | .pick c a b=>val (Zuv ρ c a b)
 | .alloc t=>Zo8 P base t
 | .box _ x=>ZE9 base (ρ x)
 | .build t parts=>val (Zl6 P ρ t parts)
 | .buildSlice t n parts=>Zcc P base ρ t n parts
 | .load t a=>val (Zlg P H t (ρ a))
 | .nilCheck x=>val (ZdT (ρ x))
 | .binOp op t x y _=>val (ZqE P op t y (ρ x) (ρ y))
 | .unOp op _ x=>val (aUn op (ρ x))
 | .convert s d x=>val (ZwD P H s d (ρ x))
 | .makeFunc fn first j=>val (ZtZ ρ fn first j)
 | .makeMap t r=>Zed P base t r
 | .makeSlice t l c=>Zc0 P base t (ρ l) (ρ c)
 | .slice t x lo hi C=>val (Zcg P H ρ t x lo hi C)
 | .fieldAddr s x f=>val (Zgr P s (ρ x) f)
 | .field s x f=>val (Ztt P s (ρ x) f)
 | .indexAddr t x i=>val (Za5 P H t (ρ x) (ρ i))
 | .index t x i=>val (Zsp P t (ρ x) (ρ i))
 | .lookup t x k ok=>val (Zg0 P H t (ρ x) (ρ k) ok)
 | .extract x i=>val (Zel (ρ x) i)
 | .makeInterface t x=>val (Zhp P t (ρ x))
 | .typeAssert x _ u ok=>val (Zg9 P (ρ x) u ok)
 | .call c=>Zjb P h E H base ρ c
 |_=>none
def Zdc (H:List Mem) (t:TypeId) (a x:PV):Option (List Mem):=
 match a with
 | .ptr id i r=>match H[id]? with
  |some (.row es z true)=>(es[i]?).bind λc=>(Zbe P t).bind λn=>
   if(cellsOf x).length=n/\r+n<=c.length then some (H.set id (.row (es.set i (splice c r (cellsOf x))) z true))else none
  |_=>none
 |_=>none
def Zoi (H:List Mem):PV->Option (List (List PV))
 | .str b=>some (byteCells b)
 |x=>elems H x
def ZfI (P:Program) (t:Option TypeId):Bool:=
 match t with
 |none=>true
 |some t=>match P.underlying t with
  |some (.int _)=>false
  |some _=>true
  |none=>false
def Zbz (H:List Mem) (z by_:Nat) (s:PV) (new:List (List PV)):Option (PV×List Mem):=
 match s with
 | .nils=>if new.isEmpty then some (.nils,H)else if new.length*by_<=140737488355328 then some (.ref H.length 0 new.length new.length,H++ [Mem.row new z true])else none
 | .ref id i n m=>match H[id]? with
  |some (.row es z' true)=>
   if z'=z/\i+n<=es.length then
    if new.isEmpty then some (s,H)
    else if n+new.length<=m then
     if i+(n+new.length)<=es.length then some (.ref id i (n+new.length) m,H.set id (.row (splice es (i+n) new) z true))else none
    else if(n+new.length)*by_<=140737488355328 then
     some (.ref H.length 0 (n+new.length) (n+new.length),(H.set id .dead)++ [Mem.row ((es.drop i).take n++new) z true])
    else none
   else none
  |_=>none
 | .clp es=>bif new.isEmpty|| !Zdd es z then none else if(es.length+new.length)*by_<=140737488355328 then some (.ref H.length 0 (es.length+new.length) (es.length+new.length),H++ [Mem.row (es++new) z true])else none
 |_=>none
def Zc5 (H:List Mem) (ts:Array TypeId) (s x:PV):Option (PV×List Mem):=
 (ts[0]?).bind λt=>(ZjX P t).bind λe=>(Zbe P e).bind λz=>(Zj4 P e).bind λby_=>(ZdO P e).bind λzero=>(Zoi H x).bind λnew=>
 if ZfI P (ts[1]?)=true/\0<by_/\0<z/\zero.length=z/\Zdd new z=true then Zbz H z by_ s new else none
def Zqw (H:List Mem) (ts:Array TypeId) (d x:PV):Option (PV×List Mem):=
 (ts[0]?).bind λt=>(ZjX P t).bind λe=>(Zbe P e).bind λz=>(Zoi H x).bind λsrc=>
 if 0<z/\Zdd src z=true then
 match d with
 | .nils=>some (.int .i64 0,H)
 | .ref id i n _=>match H[id]? with
  |some (.row es z' true)=>
   if z'=z/\i+n<=es.length then
    some (.int .i64 (min src.length n:Nat),H.set id (.row (splice es i (src.take n)) z true))
   else none
  |_=>none
 |_=>none
 else none
def Zkt (H:List Mem) (ts:Array TypeId) (d:PV):Option (PV×List Mem):=
 (ts[0]?).bind λt=>(ZjX P t).bind λe=>(Zbe P e).bind λz=>(ZdO P e).bind λzero=>
 if 0<z/\zero.length=z then
 match d with
 | .nils=>some (.tup [],H)
 | .ref id i n _=>match H[id]? with
  |some (.row es z' true)=>
   if z'=z/\i+n<=es.length then some (.tup [],H.set id (.row (splice es i (List.replicate n zero)) z true))else none
  |_=>none
 |_=>none
 else none
def ZcZ (f:FuncId) (args:List PV) (H:List Mem):Option (PV×List Mem):=
 if h.opn f then E.rn f args H
 else(Zhv h E f args H H.length).map λx=>(x.1,freeze x.2.2 H++x.2.1)
abbrev Zn0:=Option (PV×List Mem)
def Zfq (H:List Mem) (t:TypeId) (p v:Option PV):Zn0:=p.bind λp=>(v.bind Zjo).bind λv=>(Zdc P H t p v).map λH'=>(.tup [],H')
def ZpQ (H:List Mem) (t:TypeId) (m k x:Option PV):Zn0:=
 (Zim P t).bind λe=>m.bind λm=>k.bind λk=>x.bind λv=>(keyOf k).bind λkey=>bif Zfy key e.1 then
  match m with
  | .map id=>match H[id]? with
   |some (.map es)=>(Zdq key v es).map λes'=>(.tup [],H.set id (.map es'))
   |_=>none
  |_=>none
  else none
def frzT (ts:Array TypeId):Bool:=match ts[0]? with|some t=>h.frz t|none=>false
def Zeu (H:List Mem) (ts:Array TypeId) (s x:PV):Option (PV×List Mem):=
 bif frzT h ts then(exp ZaP H x).bind λj=>Zc5 P (freeze (rch ZaP H x) H) ts s j else Zc5 P H ts s x
def Zet (H:List Mem) (ρ:Operand->Option PV) (c:Call):Zn0:=(Za4 ρ c.args.toList).bind λvs=>match vs with| [s,x]=>Zeu P h H c.argTypes s x|_=>none
def Zqg (H:List Mem) (ρ:Operand->Option PV) (c:Call):Zn0:=(Za4 ρ c.args.toList).bind λvs=>match vs with| [s,x]=>Zqw P H c.argTypes s x|_=>none
def ZkU (H:List Mem) (ρ:Operand->Option PV) (c:Call):Zn0:=(Za4 ρ c.args.toList).bind λvs=>match vs with| [s]=>Zkt P H c.argTypes s|_=>none
def Zob (H:List Mem) (ρ:Operand->Option PV) (f:FuncId) (c:Call):Zn0:=(Za4 ρ c.args.toList).bind λvs=>ZcZ h E f vs H
def ZuX (H:List Mem) (ρ:Operand->Option PV) (x:Operand) (c:Call):Zn0:=
 (ρ x).bind λC=>match C with
  | .func f first j=>(Za4 ρ c.args.toList).bind λvs=>ZcZ h E f (first++vs++j) H
  |_=>none
def Zhz (H:List Mem) (ρ:Operand->Option PV) (b:Builtin) (c:Call):Zn0:=
 match b with
 | .append=>Zet P h H ρ c
 | .copy=>Zqg P H ρ c
 | .clear=>ZkU P H ρ c
 |_=>none
def ZuS (H:List Mem) (ρ:Operand->Option PV) (c:Call):Zn0:=
 match c.callee with
 | .builtin b=>Zhz P h H ρ b c
 | .value (.func f)=>Zob h E H ρ f c
 | .value x=>ZuX h E H ρ x c
 |_=>none
def opW (H:List Mem) (ρ:Operand->Option PV) (o:Oper):Zn0:=
 match o.op with
 | .store t a x=>Zfq P H t (ρ a) (ρ x)
 | .mapUpdate t m k x=>ZpQ P H t (ρ m) (ρ k) (ρ x)
 | .insert t m k x=>ZpQ P H t (ρ m) (ρ k) (ρ x)
 | .call c=>ZuS P h E H ρ c
 |_=>none
def ZGS (c:Call):Bool:=
 match c.callee with
 | .builtin b=>(match b with| .append| .copy| .clear=>true|_=>false)
 | .value (.func f)=>h.opn f
 |_=>true
def isW (o:Oper):Bool:=
 match o.op with
 | .store _ _ _| .mapUpdate _ _ _ _| .insert _ _ _ _=>true
 | .call c=>ZGS h c
 |_=>false
def ZgU (o:Oper):Bool:=
 match o.op with
 | .store _ _ _=>true
 | .call c=>(match c.callee with| .builtin b=>(match b with| .append=>true|_=>false)|_=>false)
 |_=>false
def isA (o:Oper):Bool:=
 match o.op with
 | .alloc _| .box _ _| .buildSlice _ _ _=>true
 |_=>false
def ZeI (H:List Mem) (r:Res):Zn0:=r.map λx=>(x.1,freeze x.2.2 H++x.2.1)
def Zcm (H:List Mem) (v:Option PV):Zn0:=v.map λv=>(v,H)
def Zh7 (H:List Mem) (ρ:Operand->Option PV) (c:Call):Zn0:=
 match c.callee with
 | .builtin b=>(match b with| .append=>Zet P h H ρ c| .copy=>Zqg P H ρ c| .clear=>ZkU P H ρ c|b=>Zcm H (Zcq P H ρ b c))
 | .value (.func f)=>if h.opn f then Zob h E H ρ f c else ZeI H (ZfM h E H H.length ρ f c)
 | .value x=>ZuX h E H ρ x c
 |_=>none
def opA (H:List Mem) (ρ:Operand->Option PV) (o:Oper):Zn0:=
 match o.op with
 | .move x=>Zcm H (ρ x)
 | .assign x=>Zcm H (ρ x)
 | .pick c a b=>Zcm H (Zuv ρ c a b)
 | .alloc t=>ZeI H (Zo8 P H.length t)
 | .box _ x=>ZeI H (ZE9 H.length (ρ x))
 | .build t parts=>Zcm H (Zl6 P ρ t parts)
 | .buildSlice t n parts=>ZeI H (Zcc P H.length ρ t n parts)
 | .load t a=>Zcm H (Zlg P H t (ρ a))
 | .nilCheck x=>Zcm H (ZdT (ρ x))
 | .binOp op t x y _=>Zcm H (ZqE P op t y (ρ x) (ρ y))
 | .unOp op _ x=>Zcm H (aUn op (ρ x))
 | .convert s d x=>Zcm H (ZwD P H s d (ρ x))
 | .makeFunc fn first j=>Zcm H (ZtZ ρ fn first j)
 | .makeMap t r=>ZeI H (Zed P H.length t r)
 | .makeSlice t l c=>ZeI H (Zc0 P H.length t (ρ l) (ρ c))
 | .slice t x lo hi C=>Zcm H (Zcg P H ρ t x lo hi C)
 | .fieldAddr s x f=>Zcm H (Zgr P s (ρ x) f)
 | .field s x f=>Zcm H (Ztt P s (ρ x) f)
 | .indexAddr t x i=>Zcm H (Za5 P H t (ρ x) (ρ i))
 | .index t x i=>Zcm H (Zsp P t (ρ x) (ρ i))
 | .lookup t x k ok=>Zcm H (Zg0 P H t (ρ x) (ρ k) ok)
 | .extract x i=>Zcm H (Zel (ρ x) i)
 | .makeInterface t x=>Zcm H (Zhp P t (ρ x))
 | .typeAssert x _ u ok=>Zcm H (Zg9 P (ρ x) u ok)
 | .call c=>Zh7 P h E H ρ c
 | .store t a x=>Zfq P H t (ρ a) (ρ x)
 | .mapUpdate t m k x=>ZpQ P H t (ρ m) (ρ k) (ρ x)
 | .insert t m k x=>ZpQ P H t (ρ m) (ρ k) (ρ x)
 |_=>none
def Zf2 (N:Nat) (dst:Option Tmp) (v:PV) (tm:List (Nat×PV)):Option (List (Nat×PV)):=
 match dst with
 |none=>some tm
 |some d=>if d<N then some ((d,v)::tm)else none
def Zeq (ops:Array Oper) (tm:List (Nat×PV)) (o:Oper):Option Bool:=
 match o.guard with
 |none=>some true
 |some (j,want)=>match((ops[j]?).bind (·.dst)).bind (get tm)with
  |some (.bool b)=>some (b==want)
  |some (.tup [])=>some false
  |_=>none
def Zdr (N:Nat) (ops:Array Oper) (o:Oper) (s:St):Option St:=
 (Zeq ops s.tm o).bind λb=>
 bif b then(opA P h E s.hp (ev s.tm) o).bind λx=>(Zf2 N o.dst x.1 s.tm).map λtm=>⟨tm,x.2⟩
 else(Zf2 N o.dst (.tup []) s.tm).map λtm=>⟨tm,s.hp⟩
def Zfi (N:Nat) (ops:Array Oper) (l:List Oper):St->Option St:=
 List.rec some (λo _ j s=>(Zdr P h E N ops o s).bind j) l
def has (i:Nat) (l:List Nat):Bool:=List.rec false (λj _ C=>bif Nat.beq i j then true else C) l
def ZaR (H:List Mem) (ρ:Operand->Option PV) (o:Oper):Option PV:=
 (opR P h E H H.length ρ o).bind λx=>match x with|(v,[],[])=>some v|_=>none
def ZxS (N:Nat) (ops:Array Oper) (o:Oper) (s:St):Option St:=
 (Zeq ops s.tm o).bind λb=>
 bif b then(ZaR P h E s.hp (ev s.tm) o).bind λv=>(Zf2 N o.dst v s.tm).map λtm=>⟨tm,s.hp⟩
 else(Zf2 N o.dst (.tup []) s.tm).map λtm=>⟨tm,s.hp⟩
def Zhd (N:Nat) (ops:Array Oper) (ls:List Nat) (i:Nat) (o:Oper) (s:St):Option St:=
 bif has i ls then ZxS P h E N ops o s else Zdr P h E N ops o s
def ZC9:PV->PV->Bool
 | .int k a, .int l b=>decide (k=l)&&decide (a=b)
 | .bool a, .bool b=>a==b
 | .str a, .str b=>a.data.toList==b.data.toList
 | .ref i a n m, .ref j b o q=>Nat.beq i j&&Nat.beq a b&&Nat.beq n o&&Nat.beq m q
 | .ptr i a n, .ptr j b o=>Nat.beq i j&&Nat.beq a b&&Nat.beq n o
 | .nils, .nils=>true
 | .nilp, .nilp=>true
 | .nili, .nili=>true
 | .ifc t (.b a), .ifc u (.b b)=>Nat.beq t u&&a==b
 | .ifc t (.i k a), .ifc u (.i l b)=>Nat.beq t u&&(decide (k=l)&&decide (a=b))
 | .ifc t (.s a), .ifc u (.s b)=>Nat.beq t u&&a.data.toList==b.data.toList
 |_,_=>false
def ZuF (s:PV->PV->Bool) (a:List PV):List PV->Bool:=
 List.rec (λb=>match b with| []=>true|_::_=>false) (λx _ j b=>match b with| []=>false|y::r=>s x y&&j r) a
def Zwl (s:PV->PV->Bool) (a:List (List PV)):List (List PV)->Bool:=
 List.rec (λb=>match b with| []=>true|_::_=>false) (λx _ j b=>match b with| []=>false|y::r=>ZuF s x y&&j r) a
def ZlK (s:PV->PV->Bool):PV->PV->Bool
 | .lst a, .lst b=>Zwl s a b
 | .agg a, .agg b=>ZuF s a b
 | .box a i, .box b j=>ZuF s a b&&Nat.beq i j
 |u,v=>s u v
def Zzm:PV->PV->Bool:=ZlK (ZlK (ZlK (ZlK ZC9)))
def ZgE (u v:PV):Bool:=bif Zzm u v then true else @decide (u=v) (Classical.propDecidable _)
def ZdY (acc:List (Nat×Oper×List (Nat×PV)×PV)) (H:List Mem):Option Unit:=
 List.rec (some ()) (λx _ j=>(ZaR P h E H (ev x.2.2.1) x.2.1).bind λv=>bif ZgE v x.2.2.2 then j else none) acc
def Zev (o:Oper) (j:Nat):Bool:=List.rec false (λe _ C=>bif Nat.beq e.on j&&Region.binds .any e then true else C) o.after.toList
def Zcw (o:Oper) (acc:List (Nat×Oper×List (Nat×PV)×PV)):List (Nat×Oper×List (Nat×PV)×PV):=
 bif isW h o then List.rec [] (λx _ j=>bif Zev o x.1 then j else x::j) acc else acc
def ZzM (ops:Array Oper) (i:Nat) (o:Oper) (s:St) (acc:List (Nat×Oper×List (Nat×PV)×PV)):Option (List (Nat×Oper×List (Nat×PV)×PV)):=
 (Zeq ops s.tm o).bind λb=>bif b then(ZaR P h E s.hp (ev s.tm) o).map λv=>(i,o,s.tm,v)::acc else some acc
def Zbv (N:Nat) (ops:Array Oper) (ls:List Nat) (l:List Oper):Nat->List (Nat×Oper×List (Nat×PV)×PV)->St->Option St:=
 List.rec (λ_ _ s=>some s) (λo _ I i acc s=>(Zhd P h E N ops ls i o s).bind λC=>
  bif has i ls then(ZzM P h E ops i o s acc).bind λj=>I (i+1) j C else(ZdY P h E (Zcw h o acc) C.hp).bind λ_=>I (i+1) (Zcw h o acc) C) l
def ZsP (N:Nat) (ls:List Nat) (ops:Array Oper) (s:St):Option St:=
 match ls with
 | []=>Zfi P h E N ops ops.toList s
 |ls=>Zbv P h E N ops ls ops.toList 0 [] s
def ZdZ (l:List Nat) (i:Nat):Nat:=List.rec 0 (λj _ C=>bif Nat.beq i j then 0 else C+1) l
def ZEz (π:List Nat) (l:List Edge):List Edge:=List.rec [] (λe _ j=>⟨ZdZ π e.on,e.ground⟩::j) l
def ZwY (π:List Nat) (o:Oper):Oper:=⟨o.dst,o.op,o.type,o.pos,(ZEz π o.after.toList).toArray,match o.guard with|some (j,b)=>some (ZdZ π j,b)|none=>none⟩
def Ziy (π:List Nat) (ops:Array Oper) (l:List Nat):List Oper:=List.rec [] (λi _ j=>match ops[i]? with|some o=>ZwY π o::j|none=>j) l
def rgo (π:List Nat) (ops:Array Oper):Array Oper:=match π with| []=>ops|i::r=>(Ziy (i::r) ops (i::r)).toArray
def Zdu:Code->Nat
 | .region id _ _=>id
 | .seq a _=>Zdu a
 | .block _ b=>Zdu b
 | .scope b=>Zdu b
 |_=>0
def Zft (k:Option (List Nat×Bool)) (c:Cx) (s:St):Option St:=
 match k with
 |none=>some s
 |some (ks,comp)=>if comp then(if c.base=0 then Zer (Zpi s.tm ks) s.hp else none)else some ⟨Zpi s.tm ks,s.hp⟩
def Zjp (tm:List (Nat×PV)) (H:List Mem):ResultVar->Option PV
 | .tmp t=>get tm t
 | .cell a t=>(get tm a).bind λp=>Zb2 P H t p
def ZbM:List PV->PV
 | [v]=>v
 |vs=> .tup vs
def step:Ev where
 ex:=λc code s=>match code with
  | .skip=>some (.normal,s)
  | .label _=>some (.normal,s)
  | .region id ops _=>(ZsP P h E c.N (h.light c.fid id) (rgo (h.perm c.fid id) ops) s).map λC=>(.normal,C)
  | .seq a b=>(E.ex c a s).bind λ(e,C)=>match e with
   | .normal=>E.ex c b C
   |e=>some (e,C)
  | .cond x a b=>(ev s.tm x).bind λv=>match v with
   | .bool t=>E.ex c (if t then a else b) s
   |_=>none
  | .block id b=>(E.ex c b s).bind λ(e,C)=>match e with
   | .exit j=>if j=id then(Zft (h.keepB c.fid id) c C).map λI=>(.normal,I)else some (.exit j,C)
   | .normal=>(Zft (h.keepB c.fid id) c C).map λI=>(.normal,I)
   | .ret=>some (.ret,C)
  | .loop b=>(Zft (h.keep c.fid (Zdu b)) c s).bind λJ=>(E.ex c b J).bind λ(e,C)=>match e with
   | .normal=>E.ex c (.loop b) C
   |e=>some (e,C)
  | .exit id=>some (.exit id,s)
  | .ret=>some (.ret,s)
  |_=>none
 rn:=λf args H=>
  if h.ok f then
  match P.funcs[f]? with
  |some fn=>match fn.body with
   |some code=>if args.length<=fn.ntmps then
    (E.ex ⟨f,H.length,fn.ntmps⟩ code ⟨enterT 0 args,H⟩).bind λ(e,s)=>match e with
    | .exit _=>none
    |_=>(Za4 (Zjp P s.tm s.hp) fn.results.toList).map λvs=>(ZbM vs,s.hp)
    else none
   |none=>none
  |none=>none
  else none
end
def bot:Ev where
 ex:=λ_ _ _=>none
 rn:=λ_ _ _=>none
def Zfh (P:Program) (h:Hints) (n:Nat):Ev:=
 Nat.rec bot (λ_ j=>step P h j) n
open Go.RowKit
structure Loc where
 b:Nat
 o:Nat
 z:Nat
 top:Nat
abbrev Phi:=Nat->Option Loc
def ZcT:PV->Bool
 | .agg _| .tup _=>false
 |_=>true
section
variable (w:World) (S:Nat->Prop)
mutual
def IRel:PV->Value->Prop
 | .bool b,v=>v= .bool b
 | .int k n,v=>v= .int k n
 | .str s,v=>v= .string s
 | .nilp,v=>v= .pointer none
 | .nils,v=>v= .slice none 0 0
 | .nilf,v=>v= .nilFunc
 | .nilm,v=>v= .map none
 | .nili,v=>v= .nilIface
 | .ifc t x,v=>v= .iface t x.val
 | .ptr _ _ _,_=>False
 | .ref _ _ _ _,_=>False
 | .map _,_=>False
 | .lst es,v=> ∃a c,v= .slice (some a) es.length c/\es.length<=c/\(es=[]\/ ∃b o z,a=⟨b,o,none⟩/\S b/\(∀x∈es,x.length=z)/\EsRel es b o)
 | .clp es,v=> ∃a,v= .slice (some a) es.length es.length/\(es=[]\/ ∃b o z,a=⟨b,o,none⟩/\S b/\(∀x∈es,x.length=z)/\EsRel es b o)
 | .box cs r,v=> ∃b o,v= .pointer (some ⟨b,o+r,none⟩)/\S b/\CsRel cs b o
 | .func f first j,v=> ∃C cs,v= .func (.func f) C cs/\LRel first C.toList/\LRel j cs.toList
 | .agg cs,v=> ∃arr,v= .agg arr/\(∀c∈cs,ZcT c=true)/\LRel cs arr.toList
 | .tup vs,v=> ∃arr,v= .tuple arr/\LRel vs arr.toList
def CsRel:List PV->Nat->Nat->Prop
 | [],_,_=>True
 |p::ps,b,o=>(ZcT p=true/\ ∃v,w.cell? ⟨b,o,none⟩=some v/\IRel p v)/\CsRel ps b (o+1)
def EsRel:List (List PV)->Nat->Nat->Prop
 | [],_,_=>True
 |c::cs,b,o=>CsRel c b o/\EsRel cs b (o+c.length)
def LRel:List PV->List Value->Prop
 | [],vs=>vs=[]
 |p::ps,vs=> ∃v r,vs=v::r/\IRel p v/\LRel ps r
end
end
section
variable {w w':World} {S S':Nat->Prop}
def ZgV {b:Nat} (h:w'.heap[b]? =w.heap[b]?) (o:Nat):w'.cell? ⟨b,o,none⟩=w.cell? ⟨b,o,none⟩:=by simp[World.cell?,h]
mutual
theorem IRel.mono (j: ∀b,S b->S' b/\w'.heap[b]? =w.heap[b]?): ∀ (p:PV) (v:Value),IRel w S p v->IRel w' S' p v
 | .bool _,_,h| .int _ _,_,h| .str _,_,h| .nilp,_,h| .nils,_,h| .nilf,_,h| .nilm,_,h| .nili,_,h| .ifc _ _,_,h=>by simpa only[IRel]using h
 | .ptr _ _ _,_,h| .ref _ _ _ _,_,h| .map _,_,h=>by simp only[IRel]at h
 | .lst es,v,h=>by simp only[IRel]at h|-;obtain⟨a,c,C,R,I⟩:=h;refine⟨a,c,C,R, ?_⟩;rcases I with I|⟨b,o,z,U,J,hz,he⟩;exact .inl I;exact .inr ⟨b,o,z,U,(j b J).1,hz,EsRel.mono j es b o (j b J).2 he⟩
 | .clp es,v,h=>by simp only[IRel]at h|-;obtain⟨a,C,I⟩:=h;refine⟨a,C, ?_⟩;rcases I with I|⟨b,o,z,U,J,hz,he⟩;exact .inl I;exact .inr ⟨b,o,z,U,(j b J).1,hz,EsRel.mono j es b o (j b J).2 he⟩
 | .box cs r,v,h=>by simp only[IRel]at h|-;obtain⟨b,o,C,J,hc⟩:=h;exact⟨b,o,C,(j b J).1,CsRel.mono j cs b o (j b J).2 hc⟩
 | .func f a c,v,h=>by simp only[IRel]at h|-;obtain⟨fs,cs,C,R,I⟩:=h;exact⟨fs,cs,C,LRel.mono j a _ R,LRel.mono j c _ I⟩
 | .agg cs,v,h=>by simp only[IRel]at h|-;obtain⟨arr,C,h0,R⟩:=h;exact⟨arr,C,h0,LRel.mono j cs _ R⟩
 | .tup cs,v,h=>by simp only[IRel]at h|-;obtain⟨arr,C,R⟩:=h;exact⟨arr,C,LRel.mono j cs _ R⟩
theorem CsRel.mono (j: ∀b,S b->S' b/\w'.heap[b]? =w.heap[b]?): ∀ (l:List PV) (b o:Nat),w'.heap[b]? =w.heap[b]?->CsRel w S l b o->CsRel w' S' l b o
 | [],_,_,_,_=>by simp only[CsRel]
 |p::ps,b,o,C,h=>by simp only[CsRel]at h|-;obtain⟨⟨I,v,J,hp⟩,R⟩:=h;exact⟨⟨I,v,by rw[ZgV C];exact J,IRel.mono j p v hp⟩,CsRel.mono j ps b (o+1) C R⟩
theorem EsRel.mono (j: ∀b,S b->S' b/\w'.heap[b]? =w.heap[b]?): ∀ (l:List (List PV)) (b o:Nat),w'.heap[b]? =w.heap[b]?->EsRel w S l b o->EsRel w' S' l b o
 | [],_,_,_,_=>by simp only[EsRel]
 |c::cs,b,o,C,h=>by simp only[EsRel]at h|-;exact⟨CsRel.mono j c b o C h.1,EsRel.mono j cs b _ C h.2⟩
theorem LRel.mono (j: ∀b,S b->S' b/\w'.heap[b]? =w.heap[b]?): ∀ (l:List PV) (vs:List Value),LRel w S l vs->LRel w' S' l vs
 | [],_,h=>by simpa only[LRel]using h
 |p::ps,vs,h=>by simp only[LRel]at h|-;obtain⟨v,r,C,I,J⟩:=h;exact⟨v,r,C,IRel.mono j p v I,LRel.mono j ps r J⟩
end
end
section
variable (φ:Phi) (w:World) (S:Nat->Prop)
mutual
def VRel:PV->Value->Prop
 | .ptr id i r,v=> ∃l,φ id=some l/\v= .pointer (some ⟨l.b,l.o+i*l.z+r,none⟩)
 | .ref id i n m,v=> ∃l a c,φ id=some l/\v= .slice (some a) n c/\n<=m/\m<=c/\((n=0/\c=0)\/(a=⟨l.b,l.o+i*l.z,none⟩/\(i+c)*l.z<=l.top))
 | .map id,v=> ∃l,φ id=some l/\v= .map (some l.b)
 | .func f first j,v=> ∃C cs,v= .func (.func f) C cs/\VL first C.toList/\VL j cs.toList
 | .agg cs,v=> ∃arr,v= .agg arr/\(∀c∈cs,ZcT c=true)/\VL cs arr.toList
 | .tup vs,v=> ∃arr,v= .tuple arr/\VL vs arr.toList
 | .bool b,v=>v= .bool b
 | .int k n,v=>v= .int k n
 | .str s,v=>v= .string s
 | .nilp,v=>v= .pointer none
 | .nils,v=>v= .slice none 0 0
 | .nilf,v=>v= .nilFunc
 | .nilm,v=>v= .map none
 | .nili,v=>v= .nilIface
 | .ifc t x,v=>v= .iface t x.val
 | .lst es,v=>IRel w S (.lst es) v
 | .clp es,v=>IRel w S (.clp es) v
 | .box cs r,v=>IRel w S (.box cs r) v
def VL:List PV->List Value->Prop
 | [],vs=>vs=[]
 |p::ps,vs=> ∃v r,vs=v::r/\VRel p v/\VL ps r
end
def VC:List PV->Nat->Nat->Prop
 | [],_,_=>True
 |p::ps,b,o=>(ZcT p=true/\ ∃v,w.cell? ⟨b,o,none⟩=some v/\VRel φ w S p v)/\VC ps b (o+1)
def VE:List (List PV)->Nat->Nat->Prop
 | [],_,_=>True
 |c::cs,b,o=>VC φ w S c b o/\VE cs b (o+c.length)
def VM:List (PV×PV)->List MapEntry->Prop
 | [],l=>l=[]
 |(k,v)::r,l=> ∃e j,l=e::j/\VRel φ w S k e.key/\VRel φ w S v e.val/\VM r j
end
section
variable {φ φ':Phi} {w w':World} {S S':Nat->Prop}
mutual
theorem VRel.mono (hp: ∀id l,φ id=some l->φ' id=some l) (I: ∀b,S b->S' b/\w'.heap[b]? =w.heap[b]?): ∀ (p:PV) (v:Value),VRel φ w S p v->VRel φ' w' S' p v
 | .bool _,_,h| .int _ _,_,h| .str _,_,h| .nilp,_,h| .nils,_,h| .nilf,_,h| .nilm,_,h| .nili,_,h| .ifc _ _,_,h=>by simpa only[VRel]using h
 | .ptr _ _ _,_,h=>by simp only[VRel]at h|-;obtain⟨l,j,C⟩:=h;exact⟨l,hp _ _ j,C⟩
 | .ref _ _ _ _,_,h=>by simp only[VRel]at h|-;obtain⟨l,a,c,j,C⟩:=h;exact⟨l,a,c,hp _ _ j,C⟩
 | .map _,_,h=>by simp only[VRel]at h|-;obtain⟨l,j,C⟩:=h;exact⟨l,hp _ _ j,C⟩
 | .lst es,v,h=>by simp only[VRel]at h|-;exact IRel.mono I _ _ h
 | .clp es,v,h=>by simp only[VRel]at h|-;exact IRel.mono I _ _ h
 | .box cs r,v,h=>by simp only[VRel]at h|-;exact IRel.mono I _ _ h
 | .func f a c,v,h=>by simp only[VRel]at h|-;obtain⟨J,cs,j,C,R⟩:=h;exact⟨J,cs,j,VL.mono hp I a _ C,VL.mono hp I c _ R⟩
 | .agg cs,v,h=>by simp only[VRel]at h|-;obtain⟨arr,j,U,C⟩:=h;exact⟨arr,j,U,VL.mono hp I cs _ C⟩
 | .tup cs,v,h=>by simp only[VRel]at h|-;obtain⟨arr,j,C⟩:=h;exact⟨arr,j,VL.mono hp I cs _ C⟩
theorem VL.mono (hp: ∀id l,φ id=some l->φ' id=some l) (j: ∀b,S b->S' b/\w'.heap[b]? =w.heap[b]?): ∀ (l:List PV) (vs:List Value),VL φ w S l vs->VL φ' w' S' l vs
 | [],_,h=>by simpa only[VL]using h
 |p::ps,vs,h=>by simp only[VL]at h|-;obtain⟨v,r,C,I,J⟩:=h;exact⟨v,r,C,VRel.mono hp j p v I,VL.mono hp j ps r J⟩
end
def VC.mono (hp: ∀id l,φ id=some l->φ' id=some l) (j: ∀b,S b->S' b/\w'.heap[b]? =w.heap[b]?): ∀ (l:List PV) (b o:Nat),w'.heap[b]? =w.heap[b]?->VC φ w S l b o->VC φ' w' S' l b o
 | [],_,_,_,_=>trivial
 |p::ps,b,o,C,h=>by obtain⟨⟨I,v,J,R⟩,U⟩:=h;exact⟨⟨I,v,by rw[ZgV C];exact J,VRel.mono hp j p v R⟩,VC.mono hp j ps b (o+1) C U⟩
def VE.mono (hp: ∀id l,φ id=some l->φ' id=some l) (j: ∀b,S b->S' b/\w'.heap[b]? =w.heap[b]?): ∀ (l:List (List PV)) (b o:Nat),w'.heap[b]? =w.heap[b]?->VE φ w S l b o->VE φ' w' S' l b o
 | [],_,_,_,_=>trivial
 |c::cs,b,o,C,h=>⟨VC.mono hp j c b o C h.1,VE.mono hp j cs b _ C h.2⟩
def VM.mono (hp: ∀id l,φ id=some l->φ' id=some l) (j: ∀b,S b->S' b/\w'.heap[b]? =w.heap[b]?): ∀ (l:List (PV×PV)) (es:List MapEntry),VM φ w S l es->VM φ' w' S' l es
 | [],_,h=>h
 |(k,v)::r,es,h=>by obtain⟨e,C,I,J,R,U⟩:=h;exact⟨e,C,I,VRel.mono hp j _ _ J,VRel.mono hp j _ _ R,VM.mono hp j r C U⟩
mutual
theorem IRel.toV: ∀ (p:PV) (v:Value),IRel w S p v->VRel φ w S p v
 | .bool _,_,h| .int _ _,_,h| .str _,_,h| .nilp,_,h| .nils,_,h| .nilf,_,h| .nilm,_,h| .nili,_,h| .ifc _ _,_,h=>by simpa only[VRel,IRel]using h
 | .ptr _ _ _,_,h| .ref _ _ _ _,_,h| .map _,_,h=>by simp only[IRel]at h
 | .lst es,v,h=>by simp only[VRel];exact h
 | .clp es,v,h=>by simp only[VRel];exact h
 | .box cs r,v,h=>by simp only[VRel];exact h
 | .func f a c,v,h=>by simp only[VRel,IRel]at h|-;obtain⟨I,cs,j,C,J⟩:=h;exact⟨I,cs,j,LRel.toV a _ C,LRel.toV c _ J⟩
 | .agg cs,v,h=>by simp only[VRel,IRel]at h|-;obtain⟨arr,j,R,C⟩:=h;exact⟨arr,j,R,LRel.toV cs _ C⟩
 | .tup cs,v,h=>by simp only[VRel,IRel]at h|-;obtain⟨arr,j,C⟩:=h;exact⟨arr,j,LRel.toV cs _ C⟩
theorem LRel.toV: ∀ (l:List PV) (vs:List Value),LRel w S l vs->VL φ w S l vs
 | [],_,h=>by simpa only[VL,LRel]using h
 |p::ps,vs,h=>by simp only[VL,LRel]at h|-;obtain⟨v,r,j,C,I⟩:=h;exact⟨v,r,j,IRel.toV p v C,LRel.toV ps r I⟩
end
def CsRel.toV: ∀ (l:List PV) (b o:Nat),CsRel w S l b o->VC φ w S l b o
 | [],_,_,_=>trivial
 |p::ps,b,o,h=>by simp only[CsRel]at h;obtain⟨⟨j,v,C,I⟩,J⟩:=h;exact⟨⟨j,v,C,IRel.toV p v I⟩,CsRel.toV ps b (o+1) J⟩
def EsRel.toV: ∀ (l:List (List PV)) (b o:Nat),EsRel w S l b o->VE φ w S l b o
 | [],_,_,_=>trivial
 |c::cs,b,o,h=>by simp only[EsRel]at h;exact⟨CsRel.toV c b o h.1,EsRel.toV cs b _ h.2⟩
def VL.length: ∀ {l:List PV} {vs:List Value},VL φ w S l vs->vs.length=l.length
 | [],_,h=>by simp only[VL]at h;simp[h]
 |p::ps,_,h=>by simp only[VL]at h;obtain⟨v,r,rfl,_,j⟩:=h;simp[VL.length j]
def VL.get: ∀ {l:List PV} {vs:List Value} {i:Nat} {p:PV},VL φ w S l vs->l[i]? =some p-> ∃v,vs[i]? =some v/\VRel φ w S p v
 | [],_,_,_,_,hi=>by simp at hi
 |q::ps,_,i,p,h,hi=>by simp only[VL]at h;obtain⟨v,r,rfl,j,C⟩:=h;cases i with|zero=>simp at hi;subst hi;exact⟨v,rfl,j⟩|succ i=>simp at hi|-;exact VL.get C hi
def VL.append: ∀ {l m:List PV} {vs us:List Value},VL φ w S l vs->VL φ w S m us->VL φ w S (l++m) (vs++us)
 | [],_,_,_,h,j=>by simp only[VL]at h;subst h;simpa using j
 |p::ps,_,_,_,h,j=>by simp only[VL]at h;obtain⟨v,r,rfl,C,I⟩:=h;exact⟨v,r++_,by simp,C,VL.append I j⟩
def VL.split: ∀ {l m:List PV} {vs:List Value},VL φ w S (l++m) vs-> ∃a b,vs=a++b/\VL φ w S l a/\VL φ w S m b
 | [],_,vs,h=>⟨[],vs,rfl,by simp only[VL],h⟩
 |p::ps,m,vs,h=>by have j:VL φ w S (p::(ps++m)) vs:=h;simp only[VL]at j;obtain⟨v,r,rfl,C,I⟩:=j;obtain⟨a,b,rfl,J,R⟩:=VL.split I;exact⟨v::a,b,rfl,⟨v,a,rfl,C,J⟩,R⟩
def VL.take: ∀ {l:List PV} {vs:List Value} (n:Nat),VL φ w S l vs->VL φ w S (l.take n) (vs.take n)
 | [],vs,n,h=>by simp only[VL]at h;subst h;simp[VL]
 |p::ps,vs,0,_=>by simp[VL]
 |p::ps,vs,n+1,h=>by simp only[VL]at h;obtain⟨v,r,rfl,j,C⟩:=h;simp only[List.take_succ_cons,VL];exact⟨v,r.take n,rfl,j,VL.take n C⟩
def VL.drop: ∀ {l:List PV} {vs:List Value} (n:Nat),VL φ w S l vs->VL φ w S (l.drop n) (vs.drop n)
 | [],vs,n,h=>by simp only[VL]at h;subst h;simp[VL]
 |p::ps,vs,0,h=>by simpa using h
 |p::ps,vs,n+1,h=>by simp only[VL]at h;obtain⟨v,r,rfl,C,j⟩:=h;simpa using VL.drop n j
def VC.get: ∀ {l:List PV} {b o i:Nat} {p:PV},VC φ w S l b o->l[i]? =some p->ZcT p=true/\ ∃v,w.cell? ⟨b,o+i,none⟩=some v/\VRel φ w S p v
 | [],_,_,_,_,_,hi=>by simp at hi
 |q::ps,b,o,i,p,h,hi=>by obtain⟨⟨C,v,I,J⟩,R⟩:=h;cases i with|zero=>simp at hi;subst hi;exact⟨C,v,I,J⟩|succ i=>simp at hi;obtain⟨U,u,hu,j⟩:=VC.get R hi;exact⟨U,u,by rw[<-hu];congr 2;omega,j⟩
def VC.vals: ∀ {l:List PV} {b o:Nat},VC φ w S l b o-> ∃vs,VL φ w S l vs/\(∀c∈l,ZcT c=true)/\ ∀j v,vs[j]? =some v->w.cell? ⟨b,o+j,none⟩=some v
 | [],_,_,_=>⟨[],by simp only[VL],by simp,by simp⟩
 |p::ps,b,o,h=>by obtain⟨⟨I,v,J,R⟩,U⟩:=h;obtain⟨vs,h2,h3,h4⟩:=VC.vals U;refine⟨v::vs,⟨v,vs,rfl,R,h2⟩, ?_, ?_⟩;intro c hc;rcases Xau.1 hc with rfl|hc;exact I;exact h3 c hc;·intro j u C;cases j with|zero=>simp at C;subst C;exact J|succ j=>simp at C;rw[<-h4 j u C];congr 2;omega
def VC.of_vals: ∀ {l:List PV} {vs:List Value} {b o:Nat},VL φ w S l vs->(∀c∈l,ZcT c=true)->(∀j v,vs[j]? =some v->w.cell? ⟨b,o+j,none⟩=some v)->VC φ w S l b o
 | [],_,_,_,_,_,_=>trivial
 |p::ps,vs,b,o,h,C,I=>by simp only[VL]at h;obtain⟨v,r,rfl,J,R⟩:=h;exact⟨⟨C p Xai,v,by simpa using I 0 v rfl,J⟩,VC.of_vals R (λc hm=>C c (Xaj _ hm)) λj u U=>by rw[<-I (j+1) u (by simpa using U)];congr 2;omega⟩
def ZrE {p:PV} {v:Value} (h:ZcT p=true) (j:VRel φ w S p v):v.oneCell'=true:=by
 cases p<;>simp only[VRel,IRel,ZcT]at h j<;>first
  |(subst j;rfl)
  |(obtain⟨l,_,rfl⟩:=j;rfl)
  |(obtain⟨l,a,c,_,rfl,_⟩:=j;rfl)
  |(obtain⟨a,c,rfl,_⟩:=j;rfl)
  |(obtain⟨a,rfl,_⟩:=j;rfl)
  |(simp at h;done)
def VC.append: ∀ {l m:List PV} {b o:Nat},VC φ w S l b o->VC φ w S m b (o+l.length)->VC φ w S (l++m) b o
 | [],_,_,_,_,j=>by simpa using j
 |p::ps,m,b,o,h,j=>⟨h.1,VC.append h.2 (by rw[show o+1+ps.length=o+(p::ps).length from by simp;omega];exact j)⟩
def VC.left: ∀ {l m:List PV} {b o:Nat},VC φ w S (l++m) b o->VC φ w S l b o
 | [],_,_,_,_=>trivial
 |_::_,_,_,_,h=>⟨h.1,VC.left h.2⟩
def VC.right: ∀ {l m:List PV} {b o:Nat},VC φ w S (l++m) b o->VC φ w S m b (o+l.length)
 | [],_,_,_,h=>by simpa using h
 |p::ps,_,_,o,h=>by have:=VC.right (l:=ps) h.2;rw[show o+(p::ps).length=o+1+ps.length from by simp;omega];exact this
def VE.flat: ∀ {l:List (List PV)} {b o:Nat},VE φ w S l b o->VC φ w S l.flatten b o
 | [],_,_,_=>trivial
 |c::cs,b,o,h=>by rw[XbW];exact VC.append h.1 (VE.flat h.2)
def VE.of_flat: ∀ {l:List (List PV)} {b o:Nat},VC φ w S l.flatten b o->VE φ w S l b o
 | [],_,_,_=>trivial
 |c::cs,b,o,h=>by rw[XbW]at h;exact⟨VC.left h,VE.of_flat (VC.right h)⟩
def VE.append: ∀ {l m:List (List PV)} {b o z:Nat},(∀c∈l,c.length=z)->VE φ w S l b o->VE φ w S m b (o+l.length*z)->VE φ w S (l++m) b o
 | [],_,_,_,_,_,_,j=>by simpa using j
 |p::ps,m,b,o,z,C,h,j=>by refine⟨h.1,VE.append (λc I=>C c (Xaj _ I)) h.2 ?_⟩;have:p.length=z:=C p Xai;rw[show o+p.length+ps.length*z=o+(p::ps).length*z from by simp[this,Xbv];omega];exact j
def VE.left: ∀ {l m:List (List PV)} {b o:Nat},VE φ w S (l++m) b o->VE φ w S l b o
 | [],_,_,_,_=>trivial
 |_::_,_,_,_,h=>⟨h.1,VE.left h.2⟩
def VE.right: ∀ {l m:List (List PV)} {b o z:Nat},(∀c∈l,c.length=z)->VE φ w S (l++m) b o->VE φ w S m b (o+l.length*z)
 | [],_,_,_,_,_,h=>by simpa using h
 |p::ps,_,_,o,z,j,h=>by have:=VE.right (l:=ps) (λc C=>j c (Xaj _ C)) h.2;have hp:p.length=z:=j p Xai;rw[show o+(p::ps).length*z=o+p.length+ps.length*z from by simp[hp,Xbv];omega];exact this
def VE.get {l:List (List PV)} {b o z i:Nat} {c:List PV} (C: ∀c∈l,c.length=z) (h:VE φ w S l b o) (hi:l[i]? =some c):VC φ w S c b (o+i*z):=by
 have I:i<l.length:=(Xae.1 hi).1;have j:l=l.take i++(c::l.drop (i+1)):=by have:=Xae.1 hi;rw[<-this.2];simp
 rw[j]at h;have:=VE.right (z:=z) (λc J=>C c (XaR J)) h;rw[Xay,XaQ (by omega)]at this;exact this.1
end
def Mem.alive:Mem->Bool
 | .dead=>false
 |_=>true
structure RowAt (φ:Phi) (w:World) (S:Nat->Prop) (l:Loc) (es:List (List PV)) (z:Nat) (m:Bool):Prop where
 zs:l.z=z
 top:es.length*z<=l.top
 wid: ∀c∈es,c.length=z
 cells:VE φ w S es l.b l.o
 blk: ∃cur e fz,w.heap[l.b]? =some (.cells cur e fz)/\l.o+l.top<=cur.size/\(m=true-> ∀j,j<cur.size->w.frozen? ⟨l.b,j,none⟩=false)
 own:m=true-> ¬S l.b
 frz:m=false->S l.b
def VMc (φ:Phi) (w:World) (S:Nat->Prop) (es:List (PV×PV)) (l:List MapEntry) (clock:Nat):Prop:=VM φ w S es l/\(∀e∈l,e.born<clock)/\(l.map (·.born)).Nodup
def VMc.mono {φ φ':Phi} {w w':World} {S S':Nat->Prop} (hp: ∀id l,φ id=some l->φ' id=some l) (j: ∀b,S b->S' b/\w'.heap[b]? =w.heap[b]?) {es:List (PV×PV)} {l:List MapEntry} {clock:Nat} (h:VMc φ w S es l clock):VMc φ' w' S' es l clock:=
 ⟨VM.mono hp j _ _ h.1,h.2⟩
class Laid where
 ok:(Nat->Prop)->World->Prop
 mono: ∀S w S' w',(∀b,S b->S' b/\w'.heap[b]? =w.heap[b]?)->ok S w->ok S' w'
instance (priority:=low) Laid.nothing:Laid:=⟨λ_ _=>True,λ_ _ _ _ _ _=>trivial⟩
structure Inv [Laid] (φ:Phi) (H:List Mem) (w:World) (S:Nat->Prop) (B:Nat):Prop where
 live: ∀id l,φ id=some l->B<=l.b/\l.b<w.heap.size/\id<H.length
 row: ∀id l es z m,φ id=some l->H[id]? =some (.row es z m)->RowAt φ w S l es z m
 map: ∀id l es,φ id=some l->H[id]? =some (.map es)-> ¬S l.b/\ ∃ents clock,w.heap[l.b]? =some (.map ents clock)/\VMc φ w S es ents.toList clock
 apart: ∀id id' l l' m m',id≠id'->φ id=some l->φ id'=some l'->H[id]? =some m->H[id']? =some m'->m.alive=true->m'.alive=true->l.b≠l'.b
 stable: ∀b,S b->b<w.heap.size
 base:B<=w.heap.size
 laid:Laid.ok S w
variable [Laid]
structure Evo (k B:Nat) (φ:Phi) (S:Nat->Prop) (w:World) (φ':Phi) (S':Nat->Prop) (w':World):Prop where
 phi: ∀id l,id<k->φ id=some l->φ' id=some l
 st: ∀b,S b->S' b/\w'.heap[b]? =w.heap[b]?
 old: ∀b,b<B->S' b->S b
 below:Below B w w'
def Evo.refl (k B:Nat) (φ:Phi) (S:Nat->Prop) (w:World):Evo k B φ S w φ S w:=
 ⟨λ_ _ _ h=>h,λ_ h=>⟨h,rfl⟩,λ_ _ h=>h,Below.refl _ _⟩
def Evo.trans {k B:Nat} {φ φ' j:Phi} {S S' I:Nat->Prop} {w w' J:World} (h:Evo k B φ S w φ' S' w') (R:Evo k B φ' S' w' j I J):Evo k B φ S w j I J:=
 ⟨λid l U hl=>R.phi id l U (h.phi id l U hl),λb C=>⟨(R.st b (h.st b C).1).1,((R.st b (h.st b C).1).2).trans (h.st b C).2⟩,λb C hs=>h.old b C (R.old b C hs),h.below.trans R.below⟩
def Evo.mono {k k' B:Nat} {φ φ':Phi} {S S':Nat->Prop} {w w':World} (h:Evo k B φ S w φ' S' w') (C:k'<=k):Evo k' B φ S w φ' S' w':=
 ⟨λid l hi j=>h.phi id l (by omega) j,h.st,h.old,h.below⟩
def VRel.evo {k B:Nat} {φ φ':Phi} {S S':Nat->Prop} {w w':World} {H:List Mem} {p:PV} {v:Value} (C:VRel φ w S p v) (h:Evo k B φ S w φ' S' w') (hi:Inv φ H w S B) (I:H.length<=k):VRel φ' w' S' p v:=
 VRel.mono (λid l j=>h.phi id l (by have:=(hi.live id l j).2.2;omega) j) h.st p v C
def VL.evo {k B:Nat} {φ φ':Phi} {S S':Nat->Prop} {w w':World} {H:List Mem} {p:List PV} {v:List Value} (C:VL φ w S p v) (h:Evo k B φ S w φ' S' w') (hi:Inv φ H w S B) (I:H.length<=k):VL φ' w' S' p v:=
 VL.mono (λid l j=>h.phi id l (by have:=(hi.live id l j).2.2;omega) j) h.st p v C
variable [Laid]
section
variable {P:Program} {w:World}
def Zh0 {t:TypeId} {b:Bool} (h:ZuW P t=some b):(isAgg t).run P w= .ok b w:=by unfold ZuW at h;unfold isAgg;cases hu:P.underlying t with|none=>simp[hu]at h|some d=>simp only[Sem.run_bind,run_underlying hu,Result.andThen_ok];cases d<;>simp_all
def ZaO {t:TypeId} {n:Nat} (h:Zbe P t=some n):(sizeOf t).run P w= .ok n w:=by unfold Zbe at h;cases hi:P.info? t with|none=>simp[hi]at h|some i=>simp[hi]at h;simp[sizeOf,typeInfo,hi,h]
def Zhs {α:Type}: ∀ (s:Sem α) (a:α),Ziz P s=some a-> ∀w,s.run P w= .ok a w
 | .pure a,b,h,w=>by simp[Ziz]at h;subst h;rfl
 | .program k,b,h,w=>by simp[Ziz]at h;exact Zhs (k P) b h w
 | .load ..,_,h,_| .store ..,_,h,_| .new ..,_,h,_| .shape ..,_,h,_| .freeze ..,_,h,_| .frozen ..,_,h,_| .getObj ..,_,h,_| .setObj ..,_,h,_| .choose ..,_,h,_| .sys ..,_,h,_| .mark ..,_,h,_| .halt ..,_,h,_=>by simp[Ziz]at h
def Zcr {α β:Type} (f:α->Option β):Za4 f []=some []:=rfl
def ZhK {α β:Type} (f:α->Option β) (a:α) (r:List α):Za4 f (a::r)=(f a).bind λb=>(Za4 f r).bind λs=>some (b::s):=rfl
def Zp6 {α β j:Type} {x:Option α} {y:Option β} {f:α->β->Option j} {r:j} (h:(x.bind λa=>y.bind λb=>f a b)=some r): ∃a b,x=some a/\y=some b/\f a b=some r:=by
 cases x with
 |none=>simp at h
 |some a=>cases y with
  |none=>simp at h
  |some b=>exact⟨a,b,rfl,rfl,by simpa using h⟩
def ZyD {α j:Type} {x:Option α} {f:α->j} {r:j} (h:x.map f=some r): ∃a,x=some a/\f a=r:=by cases x with|none=>simp at h|some a=>exact⟨a,rfl,by simpa using h⟩
def Zai {α j:Type} {x:Option α} {f:α->Option j} {r:j} (h:x.bind f=some r): ∃a,x=some a/\f a=some r:=by cases x with|none=>simp at h|some a=>exact⟨a,rfl,by simpa using h⟩
def ZaF {α β:Type} {f:α->Option β} {a:α} {r:List α} {l:List β} (h:Za4 f (a::r)=some l): ∃b s,f a=some b/\Za4 f r=some s/\l=b::s:=by
 rw[ZhK]at h;cases j:f a with
 |none=>simp[j]at h
 |some b=>cases C:Za4 f r with
  |none=>simp[j,C]at h
  |some s=>simp[j,C]at h;exact⟨b,s,rfl,rfl,h.symm⟩
def Zfl {α β:Type} {f:α->Option β}: ∀ {r:List α} {l:List β},Za4 f r=some l->l.length=r.length
 | [],l,h=>by simp[Zcr]at h;simp[h]
 |a::r,l,h=>by obtain⟨b,s,_,j,rfl⟩:=ZaF h;simp[Zfl j]
def ZjJ {α β:Type} {f:α->Option β}: ∀ {r:List α} {l:List β},Za4 f r=some l-> ∀b∈l,∃a∈r,f a=some b
 | [],l,h,b,hb=>by simp[Zcr]at h;subst h;simp at hb
 |a::r,l,h,b,hb=>by obtain⟨c,s,C,I,rfl⟩:=ZaF h;rcases Xau.1 hb with rfl|hb;exact⟨a,Xai,C⟩;obtain⟨x,J,j⟩:=ZjJ I b hb;exact⟨x,Xaj _ J,j⟩
variable {φ:Phi} {S:Nat->Prop} {B:Nat} {H:List Mem}
def Zi5 {v:Value} {p:PV} (h:ZgJ v=some p):VRel φ w S p v/\ZcT p=true:=by unfold ZgJ at h;split at h<;>first|(simp at h;subst h;exact⟨by simp[VRel],rfl⟩)|simp at h
def Zdz: ∀ {vs:List Value} {ps:List PV},Za4 ZgJ vs=some ps->VL φ w S ps vs/\ ∀c∈ps,ZcT c=true
 | [],ps,h=>by simp[Zcr]at h;subst h;exact⟨by simp only[VL],by simp⟩
 |v::vs,ps,h=>by obtain⟨b,s,j,C,rfl⟩:=ZaF h;obtain⟨I,J⟩:=Zdz C;obtain⟨R,U⟩:=Zi5 (φ:=φ) (w:=w) (S:=S) j;refine⟨⟨v,vs,rfl,R,I⟩, ?_⟩;intro c hc;rcases Xau.1 hc with rfl|hc;exact U;exact J c hc
def Zj5 {v:Value} {p:PV} (h:Zqd v=some p):VRel φ w S p v:=by
 unfold Zqd at h;split at h;rename_i cs;cases j:Za4 ZgJ cs.toList with|none=>simp[j]at h|some ps=>simp[j]at h;subst h;obtain⟨C,I⟩:=Zdz (φ:=φ) (w:=w) (S:=S) j;simp only[VRel];exact⟨cs,rfl,I,C⟩
 exact(Zi5 h).1
def Zxy {p:PV} {v u:Value} (h:ZkK p=some v) (j:VRel φ w S p u):u=v:=by cases p<;>simp[ZkK]at h<;>simp only[VRel]at j<;>rw[j,h]
def Zih: ∀ {ps:List PV} {vs us:List Value},Za4 ZkK ps=some vs->VL φ w S ps us->us=vs
 | [],vs,us,h,j=>by simp[Zcr]at h;simp only[VL]at j;subst h;exact j
 |p::ps,vs,us,h,j=>by obtain⟨b,s,C,I,rfl⟩:=ZaF h;simp only[VL]at j;obtain⟨v,r,rfl,J,R⟩:=j;rw[Zxy C J,Zih I R]
def TRel (φ:Phi) (w:World) (S:Nat->Prop) (N:Nat) (tm:List (Nat×PV)) (a:Act):Prop:=
 a.tmps.size=N/\a.defers=[]/\ ∀i p,get tm i=some p->i<N/\VRel φ w S p (a.tmps.getD i undef)
def Znk (i:Nat):get [] i=none:=rfl
def Zcu (j:Nat) (v:PV) (r:List (Nat×PV)) (i:Nat):get ((j,v)::r) i=if i=j then some v else get r i:=by
 show(bif Nat.beq i j then some v else get r i)=_;by_cases h:i=j;simp[h];have:Nat.beq i j=false:=by cases C:Nat.beq i j with|false=>rfl|true=>exact absurd (Xar C) h
 simp[h,this]
def Zaw {tm:List (Nat×PV)} {a:Act} {N:Nat} (j:TRel φ w S N tm a) {x:Operand} {p:PV} (h:ev tm x=some p):VRel φ w S p (a.eval x):=by cases x with|tmp t=>exact(j.2.2 t p h).2|const v=>exact Zj5 h|global g=>simp[ev]at h|func f=>simp[ev]at h;subst h;simp only[VRel,Act.eval];exact⟨#[], #[],rfl,by simp only[VL],by simp only[VL]⟩
def Zcp {tm:List (Nat×PV)} {a:Act} {N:Nat} (j:TRel φ w S N tm a): ∀ {xs:List Operand} {ps:List PV},Za4 (ev tm) xs=some ps->VL φ w S ps (xs.map a.eval)
 | [],ps,h=>by simp[Zcr]at h;subst h;simp only[VL,List.map_nil]
 |x::xs,ps,h=>by obtain⟨b,s,C,I,rfl⟩:=ZaF h;exact⟨_,_,rfl,Zaw j C,Zcp j I⟩
def Zkm {α:Type} {c:Prop} [Decidable c] {x:Option α} {p:α} (h:(if c then none else x)=some p): ¬c/\x=some p:=by by_cases j:c;rw[if_pos j]at h;cases h;rw[if_neg j]at h;exact⟨j,h⟩
def Zak {α:Type} {c:Prop} [Decidable c] {x:Option α} {p:α} (h:(if c then x else none)=some p):c/\x=some p:=by by_cases j:c;rw[if_pos j]at h;exact⟨j,h⟩;rw[if_neg j]at h;cases h
def ZbF (k:IntKind) (n:Int):VRel φ w S (.int k n) (.int k n):=by simp only[VRel]
def Zhi (b:Bool):VRel φ w S (.bool b) (.bool b):=by simp only[VRel]
def ZhI (s:ByteArray):VRel φ w S (.str s) (.string s):=by simp only[VRel]
def Zoe {op:BinOp} {t:TypeId} {k k':IntKind} {a b:Int} {p:PV} (h:Zkh op k a k' b=some p): ∃u,(binOp op t (.int k a) (.int k' b)).run P w= .ok u w/\VRel φ w S p u:=by
 cases op<;>simp only[Zkh]at h<;>first
  |(obtain⟨C,j⟩:=Zak h;subst C;obtain⟨I,J⟩:=Zkm j;cases J;refine⟨_, ?_,ZbF _ _⟩;simp only[binOp,Op.intDiv,ne_eq,not_true_eq_false,if_false,I];rfl)
  |(obtain⟨C,j⟩:=Zak h;subst C;cases j;refine⟨_, ?_,ZbF _ _⟩;simp only[binOp,Op.intArith,Op.intBits,Op.intCmp,ne_eq,not_true_eq_false,if_false];rfl)
  |(obtain⟨C,j⟩:=Zak h;subst C;cases j;refine⟨_, ?_,Zhi _⟩;simp only[binOp,Op.intArith,Op.intBits,Op.intCmp,ne_eq,not_true_eq_false,if_false];rfl)
  |(obtain⟨I,j⟩:=Zkm h;cases j;refine⟨_, ?_,ZbF _ _⟩;simp only[binOp,Op.shift,I,if_false];rfl)
def Zua (k s:ByteArray):(k.data.toList==s.data.toList)=(k==s):=by cases k with|mk x=>cases s with|mk y=>show(x.toList==y.toList)=(x==y);rw[Bool.eq_iff_iff,beq_iff_eq,beq_iff_eq];exact⟨λh=>Array.ext' h,λh=>by rw[h]⟩
def Zo4 {op:BinOp} {t:TypeId} {a b:ByteArray} {p:PV} (h:ZpA op a b=some p): ∃u,(binOp op t (.string a) (.string b)).run P w= .ok u w/\VRel φ w S p u:=by
 simp only[ZpA,<-ByteArray.toList_eq]at h;cases op<;>simp only[]at h<;>first
  |(cases h;done)
  |(cases h;exact⟨_,rfl,Zhi _⟩)
  |(obtain⟨hle,h⟩:=Zak h
    cases h
    refine⟨_, ?_,ZhI _⟩
    have hm:IntKind.i64.max=9223372036854775807:=rfl
    show(if((a.size+b.size:Nat):Int)>IntKind.i64.max then _ else _:Sem Value).run P w=_
    rw[if_neg (by rw[hm];omega)]
    rfl)
def Zpv {t:TypeId} (h:ZnL P t=true):P.underlying t=some .bool:=by unfold ZnL at h;split at h;assumption;simp at h
def ZgZ {t:TypeId} (h:Zi8 P t=true): ∃e,P.underlying t=some (.pointer e):=by unfold Zi8 at h;split at h;exact⟨_,by assumption⟩;simp at h
def Zfg {t:TypeId} (h:Zc7 P t=true): ∃e,P.underlying t=some (.slice e):=by unfold Zc7 at h;split at h;exact⟨_,by assumption⟩;simp at h
def ZbU {op:BinOp} {t:TypeId} {a b:Value} {r:Bool} {p:PV} (h:Zp3 op r=some p) (C: ∀j:BinOp,(j= .eql\/j= .neq)->binOp j t a b=(match j with
 | .eql=>(do pure (.bool (<-Op.equal t a b)):Sem Value)|_=>(do pure (.bool (!(<-Op.equal t a b))):Sem Value))) (he:(Op.equal t a b).run P w= .ok r w): ∃u,(binOp op t a b).run P w= .ok u w/\VRel φ w S p u:=by unfold Zp3 at h;split at h;simp at h;subst h;rw[C .eql (.inl rfl)];exact⟨.bool r,by simp[he],by simp only[VRel]⟩;simp at h;subst h;rw[C .neq (.inr rfl)];exact⟨.bool (!r),by simp[he],by simp only[VRel]⟩;simp at h
def ZaS {op:BinOp} {t:TypeId} {x y:Operand} {a b:Value} (h: ∀cs ds,¬ (a= .agg cs/\b= .agg ds)) (j: ¬ (a= .nilIface/\b= .nilIface)):(eqGuard op t x y a b).run P w= .ok () w:=by
 cases op<;>first
  |rfl
  |(simp only[eqGuard,Bool.not_true,XaO,if_false]
    split
    ·exact absurd ⟨rfl,rfl⟩ j
    ·exact absurd ⟨rfl,rfl⟩ (h _ _)
    ·rfl)
def Zrp {op:BinOp} {t:TypeId} {x y p:PV} {X Y:Operand} {a b:Value} (h:Zhj P op t x y=some p) (j:VRel φ w S x a) (C:VRel φ w S y b):
 ∃u,(do eqGuard op t X Y a b;binOp op t a b:Sem Value).run P w= .ok u w/\VRel φ w S p u:=by
 have guard:((eqGuard op t X Y a b).run P w= .ok () w)->(∃u,(binOp op t a b).run P w= .ok u w/\VRel φ w S p u)-> ∃u,(do eqGuard op t X Y a b;binOp op t a b:Sem Value).run P w= .ok u w/\VRel φ w S p u:=by rintro hg ⟨u,R,U⟩;exact⟨u,by simp[hg,R],U⟩
 unfold Zhj at h;split at h;simp only[VRel]at j C;subst j;subst C;exact guard (ZaS (by simp) (by simp)) (Zoe h);simp only[VRel]at j C;subst j;subst C;exact guard (ZaS (by simp) (by simp)) (Zo4 h);rename_i c d;simp only[VRel]at j C;subst j;subst C;split at h;rename_i J;have hu:=Zpv J;refine guard (ZaS (by simp) (by simp)) (ZbU h ?_ ?_);rintro I (rfl|rfl)<;>rfl;show(Op.equalIn (9999+1) t _ _).run P w=_;rw[Op.equalIn];simp[run_underlying hu];simp at h;rename_i xs ys;simp only[VRel]at j C;obtain⟨ax,rfl,_,aa⟩:=j;obtain⟨ay,rfl,_,ab⟩:=C;cases he:ZAR P t xs ys with
  |none=>simp[he]at h
  |some r=>
   simp[he]at h;unfold ZAR at he;cases R:Za4 ZkK xs with
   |none=>simp[R]at he
   |some as=>
    cases U:Za4 ZkK ys with
    |none=>simp[R,U]at he
    |some bs=>
     simp[R,U]at he;obtain⟨hg,he⟩:=he;have e1:ax=as.toArray:=(by have:=Zih R aa;rw[<-this]);have e2:ay=bs.toArray:=(by have:=Zih U ab;rw[<-this]);subst e1;subst e2;refine guard ?_ (ZbU h ?_ (Zhs _ _ he w));cases op<;>first
       |rfl
       |(simp[eqGuard,hg])
     rintro I (rfl|rfl)<;>rfl
 simp only[VRel]at j C;subst j;subst C;split at h;rename_i J;obtain⟨e,hu⟩:=Zfg J;refine guard (ZaS (by simp) (by simp)) (ZbU h ?_ ?_);rintro I (rfl|rfl)<;>rfl;show(Op.equalIn (9999+1) t _ _).run P w=_;rw[Op.equalIn];simp[run_underlying hu];simp at h;simp only[VRel]at j C;obtain⟨l,ad,c,_,rfl,_⟩:=j;subst C;split at h;rename_i J;obtain⟨e,hu⟩:=Zfg J;refine guard (ZaS (by simp) (by simp)) (ZbU h ?_ ?_);rintro I (rfl|rfl)<;>rfl;show(Op.equalIn (9999+1) t _ _).run P w=_;rw[Op.equalIn];simp[run_underlying hu];simp at h;simp only[VRel,IRel]at j C;obtain⟨ad,c,rfl,_⟩:=j;subst C;split at h;rename_i J;obtain⟨e,hu⟩:=Zfg J;refine guard (ZaS (by simp) (by simp)) (ZbU h ?_ ?_);rintro I (rfl|rfl)<;>rfl;show(Op.equalIn (9999+1) t _ _).run P w=_;rw[Op.equalIn];simp[run_underlying hu];simp at h;simp only[VRel]at j C;subst j;subst C;split at h;rename_i J;obtain⟨e,hu⟩:=ZgZ J;refine guard (ZaS (by simp) (by simp)) (ZbU h ?_ ?_);rintro I (rfl|rfl)<;>rfl;show(Op.equalIn (9999+1) t _ _).run P w=_;rw[Op.equalIn];simp[run_underlying hu];simp at h;simp only[VRel]at j C;obtain⟨l,_,rfl⟩:=j;subst C;split at h;rename_i J;obtain⟨e,hu⟩:=ZgZ J;refine guard (ZaS (by simp) (by simp)) (ZbU h ?_ ?_);rintro I (rfl|rfl)<;>rfl;show(Op.equalIn (9999+1) t _ _).run P w=_;rw[Op.equalIn];simp[run_underlying hu];simp at h;simp only[VRel,IRel]at j C;obtain⟨b,o,rfl,_⟩:=j;subst C;split at h;rename_i J;obtain⟨e,hu⟩:=ZgZ J;refine guard (ZaS (by simp) (by simp)) (ZbU h ?_ ?_);rintro I (rfl|rfl)<;>rfl;show(Op.equalIn (9999+1) t _ _).run P w=_;rw[Op.equalIn];simp[run_underlying hu];simp at h;simp at h
def Zt5 {op:BinOp} {t:TypeId} {y:Operand} {u v:Option PV} {p:PV} (h:ZHq P op t u v=some p):ZqE P op t y u v=some p:=by unfold ZqE;rw[h]
def Zwh {op:BinOp} {t:TypeId} {y:Operand}:ZGY P op t y none=none:=by unfold ZGY;split<;>first|rfl|(rename_i h;cases h)
def Zt9 {op:BinOp} {t:TypeId} {x p:PV} {X y:Operand} {a b:Value} (h:ZGY P op t y (some x)=some p) (J:VRel φ w S x a) (U:y= .const .nilIface->b= .nilIface):
 ∃u,(do eqGuard op t X y a b;binOp op t a b:Sem Value).run P w= .ok u w/\VRel φ w S p u:=by
 have j: ∀ (r:Bool),(∀C:BinOp,(C= .eql\/C= .neq)->binOp C t a .nilIface=(match C with
  | .eql=>(do pure (.bool (<-Op.equal t a .nilIface)):Sem Value)|_=>(do pure (.bool (!(<-Op.equal t a .nilIface))):Sem Value)))->(∀ms,P.underlying t=some (.interface ms)->(Op.equal t a .nilIface).run P w= .ok r w)->
  (eqGuard op t X (.const .nilIface) a .nilIface).run P w= .ok () w->(bif Zpl P t then Zp3 op r else none)=some p-> ∃u,(do eqGuard op t X (.const .nilIface) a .nilIface;binOp op t a .nilIface:Sem Value).run P w= .ok u w/\VRel φ w S p u:=by
  intro r h1 h2 hg R;cases hi:Zpl P t with|false=>rw[hi]at R;cases R|true=>rw[hi,cond_true]at R;unfold Zpl at hi;split at hi;rename_i ms hu;obtain⟨u,h4,h5⟩:=ZbU (φ:=φ) (S:=S) R h1 (h2 ms hu);exact⟨u,by simp[hg,h4],h5⟩;cases hi
 unfold ZGY at h;split at h;rename_i I;cases I;rw[U rfl];simp only[VRel]at J;subst J;refine j true ?_ ?_ ?_ h;rintro C (rfl|rfl)<;>rfl;intro ms hu;show(Op.equalIn (9999+1) t _ _).run P w=_;rw[Op.equalIn];simp[run_underlying hu];cases op<;>cases X<;>rfl;rename_i t' s I;cases I;rw[U rfl];simp only[VRel]at J;subst J;refine j false ?_ ?_ ?_ h;rintro C (rfl|rfl)<;>rfl;intro ms hu;show(Op.equalIn (9999+1) t _ _).run P w=_;rw[Op.equalIn];simp[run_underlying hu];cases op<;>rfl;cases h
def Zuk {op:UnOp} {x p:PV} {a:Value} (h:ZHi op x=some p) (j:VRel φ w S x a): ∃u,(Op.unary op a).run P w= .ok u w/\VRel φ w S p u:=by
 unfold ZHi at h;split at h<;>first
  |(simp at h;done)
  |(simp only[Xaf]at h;subst h;simp only[VRel]at j;subst j;exact⟨_,rfl,by simp only[VRel]⟩)
end
variable [Laid]
section
variable {w:World} {S:Nat->Prop}
mutual
theorem VRel.toI: ∀ (p:PV) (v:Value),VRel (λ_=>none) w S p v->IRel w S p v
 | .bool _,_,h| .int _ _,_,h| .str _,_,h| .nilp,_,h| .nils,_,h| .nilf,_,h| .nilm,_,h| .nili,_,h| .ifc _ _,_,h=>by simpa only[VRel,IRel]using h
 | .ptr _ _ _,_,h=>by simp only[VRel]at h;obtain⟨l,h,_⟩:=h;cases h
 | .ref _ _ _ _,_,h=>by simp only[VRel]at h;obtain⟨l,a,c,h,_⟩:=h;cases h
 | .map _,_,h=>by simp only[VRel]at h;obtain⟨l,h,_⟩:=h;cases h
 | .lst es,v,h=>by simpa only[VRel]using h
 | .clp es,v,h=>by simpa only[VRel]using h
 | .box cs r,v,h=>by simpa only[VRel]using h
 | .func f a c,v,h=>by simp only[VRel,IRel]at h|-;obtain⟨I,cs,j,C,J⟩:=h;exact⟨I,cs,j,VL.toI a _ C,VL.toI c _ J⟩
 | .agg cs,v,h=>by simp only[VRel,IRel]at h|-;obtain⟨arr,j,R,C⟩:=h;exact⟨arr,j,R,VL.toI cs _ C⟩
 | .tup cs,v,h=>by simp only[VRel,IRel]at h|-;obtain⟨arr,j,C⟩:=h;exact⟨arr,j,VL.toI cs _ C⟩
theorem VL.toI: ∀ (l:List PV) (vs:List Value),VL (λ_=>none) w S l vs->LRel w S l vs
 | [],_,h=>by simpa only[VL,LRel]using h
 |p::ps,vs,h=>by simp only[VL,LRel]at h|-;obtain⟨v,r,j,C,I⟩:=h;exact⟨v,r,j,VRel.toI p v C,VL.toI ps r I⟩
end
def VC.toI: ∀ (l:List PV) (b o:Nat),VC (λ_=>none) w S l b o->CsRel w S l b o
 | [],_,_,_=>by simp only[CsRel]
 |p::ps,b,o,h=>by obtain⟨⟨j,v,C,I⟩,J⟩:=h;simp only[CsRel];exact⟨⟨j,v,C,VRel.toI p v I⟩,VC.toI ps b (o+1) J⟩
def VE.toI: ∀ (l:List (List PV)) (b o:Nat),VE (λ_=>none) w S l b o->EsRel w S l b o
 | [],_,_,_=>by simp only[EsRel]
 |c::cs,b,o,h=>by simp only[EsRel];exact⟨VC.toI c b o h.1,VE.toI cs b _ h.2⟩
def EsRel.get {l:List (List PV)} {b o z i:Nat} {c:List PV} (j: ∀c∈l,c.length=z) (h:EsRel w S l b o) (hi:l[i]? =some c):CsRel w S c b (o+i*z):=
 VC.toI _ _ _ (VE.get j (EsRel.toV (φ:=λ_=>none) _ _ _ h) hi)
def EsRel.drop {l:List (List PV)} {b o z:Nat} (n:Nat) (C: ∀c∈l,c.length=z) (I:n<=l.length) (h:EsRel w S l b o):EsRel w S (l.drop n) b (o+n*z):=by have j:=EsRel.toV (φ:=λ_=>none) _ _ _ h;rw[<-Xa9 n l]at j;have:=VE.right (z:=z) (λc J=>C c (XaR J)) j;rw[Xay,XaQ I]at this;exact VE.toI _ _ _ this
def EsRel.take {l:List (List PV)} {b o:Nat} (n:Nat) (h:EsRel w S l b o):EsRel w S (l.take n) b o:=by have j:=EsRel.toV (φ:=λ_=>none) _ _ _ h;rw[<-Xa9 n l]at j;exact VE.toI _ _ _ (VE.left j)
end
section
variable {P:Program} {w:World} {φ:Phi} {S:Nat->Prop} {B:Nat} {H:List Mem}
def VE.take {l:List (List PV)} {b o:Nat} (n:Nat) (h:VE φ w S l b o):VE φ w S (l.take n) b o:=by rw[<-Xa9 n l]at h;exact VE.left h
def VE.drop {l:List (List PV)} {b o z:Nat} (n:Nat) (j: ∀c∈l,c.length=z) (C:n<=l.length) (h:VE φ w S l b o):VE φ w S (l.drop n) b (o+n*z):=by rw[<-Xa9 n l]at h;have:=VE.right (z:=z) (λc I=>j c (XaR I)) h;rwa[Xay,XaQ C]at this
def VC.take {l:List PV} {b o:Nat} (n:Nat) (h:VC φ w S l b o):VC φ w S (l.take n) b o:=by rw[<-Xa9 n l]at h;exact VC.left h
def VC.drop {l:List PV} {b o:Nat} (n:Nat) (j:n<=l.length) (h:VC φ w S l b o):VC φ w S (l.drop n) b (o+n):=by rw[<-Xa9 n l]at h;have:=VC.right h;rwa[Xay,XaQ j]at this
def ZlX {t:TypeId} {cs:List PV} {off:Nat} {p:PV} {arr:Array Value} (h:ZdU P t cs off=some p) (U: ∀c∈cs,ZcT c=true) (J:VL φ w S cs arr.toList):
 ∃u,(part t arr off).run P w= .ok u w/\VRel φ w S p u:=by
 unfold ZdU at h;split at h;·rename_i j;cases C:Zbe P t with|none=>simp[C]at h|some n=>simp only[C,Xaa]at h;obtain⟨hle,I⟩:=Zak h;cases I;refine⟨.agg (arr.extract off (off+n)),by simp[part,Zh0 j,ZaO C], ?_⟩;simp only[VRel];refine⟨_,rfl,λc hc=>U c (XbD (XaR hc)), ?_⟩;rw[Array.toList_extract];have:(arr.toList.take (off+n)).drop off=(arr.toList.drop off).take n:=(by rw[List.drop_take];congr 1;omega);simpa[List.extract_eq_take_drop]using VL.take n (VL.drop off J)
 rename_i j;obtain⟨v,R,I⟩:=VL.get J h;exact⟨v,by simp[part,Zh0 j];simp at R;simp[R],I⟩;simp at h
def Zkk {t:TypeId} {cs:List PV} {r b o:Nat} {p:PV} (h:ZdU P t cs r=some p) (U:VC φ w S cs b o):
 ∃u,(loadVar t ⟨b,o+r,none⟩).run P w= .ok u w/\VRel φ w S p u:=by
 unfold ZdU at h;split at h;rename_i I;cases J:Zbe P t with|none=>simp[J]at h|some n=>simp only[J,Xaa]at h;obtain⟨hle,R⟩:=Zak h;cases R;obtain⟨vs,C,h3,h4⟩:=VC.vals (VC.take n (VC.drop r (by omega) U));have hlen:vs.length=n:=(by rw[VL.length C,Xay,Xbo];omega);refine⟨.agg vs.toArray, ?_, ?_⟩;have:=run_loadCells_list (P:=P) w ⟨b,o+r,none⟩ vs (λj v hj=>by rw[Addr.add_lit];exact h4 j v hj);rw[hlen]at this;simp[loadVar,Zh0 I,ZaO J,this];simp only[VRel];exact⟨_,rfl,h3,C⟩
 rename_i I;obtain⟨_,v,C,R⟩:=VC.get U h;exact⟨v,by simp[loadVar,Zh0 I,run_load,C],R⟩;simp at h
def ZiY {t:TypeId} {x p:PV} {a:Value} (U:Inv φ H w S B) (h:Zb2 P H t x=some p) (C:VRel φ w S x a): ∃u,(Instr.loadAt t a).run P w= .ok u w/\VRel φ w S p u:=by
 unfold Zb2 at h;split at h;rename_i id i r;split at h;rename_i es z m hm;cases j:es[i]? with|none=>simp[j]at h|some c=>simp only[j,Xaa]at h;simp only[VRel]at C;obtain⟨l,hl,rfl⟩:=C;have I:=U.row id l es z m hl hm;have:=VE.get I.wid I.cells j;rw[<-I.zs]at this;obtain⟨u,J,R⟩:=Zkk (P:=P) (t:=t) h this;exact⟨u,by simpa[Instr.loadAt,Instr.sureAddr]using J,R⟩
 simp at h;rename_i c r;simp only[VRel,IRel]at C;obtain⟨b,o,rfl,hb,j⟩:=C;obtain⟨u,J,R⟩:=Zkk (P:=P) (t:=t) h (CsRel.toV (φ:=φ) _ _ _ j);exact⟨u,by simpa[Instr.loadAt,Instr.sureAddr]using J,R⟩;simp at h
def Zan {t:TypeId} {d:TypeDesc} (h:P.underlying t=some d):(underlying t).run P w= .ok d w:=run_underlying h w
def Zh6 {s:TypeId} {x p:PV} {f:Nat} {a:Value} (h:ZcX P s x f=some p) (I:VRel φ w S x a): ∃u,(Instr.fieldAt s a f).run P w= .ok u w/\VRel φ w S p u:=by
 unfold ZcX at h;cases hf:fieldAt P s f with
 |none=>simp[hf]at h
 |some of=>
  obtain⟨off,ft⟩:=of;simp only[hf,Xaa]at h;unfold fieldAt at hf;split at hf;rename_i U hu;cases C:U[f]? with
   |none=>simp[C]at hf
   |some fd=>
    simp[C]at hf;obtain⟨rfl,rfl⟩:=hf;split at h;simp at h;rename_i n J hn;have j: ∀b o,(fieldPlace ⟨b,o,none⟩ fd).run P w= .ok ⟨b,o+fd.offset,none⟩ w:=by intro b o;have R:n≠0:=(by rintro rfl;exact J rfl);simp[fieldPlace,ZaO hn,R,Addr.add_lit]
    split at h;rename_i id i r;cases h;simp only[VRel]at I|-;obtain⟨l,hl,rfl⟩:=I;exact⟨_,by simp[Instr.fieldAt,Zan hu,C,Instr.sureAddr,j]<;>rfl,l,hl,by simp[XbA]⟩;rename_i cs r;cases h;simp only[VRel,IRel]at I|-;obtain⟨b,o,rfl,hb,hc⟩:=I;exact⟨_,by simp[Instr.fieldAt,Zan hu,C,Instr.sureAddr,j]<;>rfl,b,o,by simp[XbA],hb,hc⟩;simp at h;simp at h
  simp at hf
def ZmJ {s:TypeId} {x p:PV} {f:Nat} {a:Value} (h:Zk1 P s x f=some p) (C:VRel φ w S x a): ∃u,(Instr.field s a f).run P w= .ok u w/\VRel φ w S p u:=by unfold Zk1 at h;cases hf:fieldAt P s f with|none=>simp[hf]at h|some of=>obtain⟨off,ft⟩:=of;simp only[hf,Xaa]at h;unfold fieldAt at hf;split at hf;rename_i I hu;(cases j:I[f]? with|none=>simp[j]at hf|some fd=>simp[j]at hf;obtain⟨rfl,rfl⟩:=hf;split at h;rename_i cs;simp only[VRel]at C;obtain⟨arr,rfl,J,R⟩:=C;obtain⟨u,U,h2⟩:=ZlX h J R;exact⟨u,by simp[Instr.field,Zan hu,j,asAgg,U],h2⟩;simp at h);simp at hf
def ZiG {t:TypeId} {x ix p:PV} {a j:Value} (hI:Inv φ H w S B) (h:Zao P H t x ix=some p) (I:VRel φ w S x a) (hj:VRel φ w S ix j):
 ∃u,(Instr.indexAt t a j).run P w= .ok u w/\VRel φ w S p u:=by
 unfold Zao at h;split at h;rename_i k U;simp only[VRel]at hj;subst hj;split at h;rename_i e es hu;cases C:Zbe P e with|none=>simp[C]at h|some z=>simp only[C,Xaa]at h;obtain⟨J,h⟩:=Zak h;cases hc:es[U.toNat]? with|none=>simp[hc]at h|some c=>simp only[hc,Xaa]at h;obtain⟨aa,h⟩:=Zak h;cases h;simp only[VRel,IRel]at I|-;obtain⟨ad,cp,rfl,hle,I⟩:=I;rcases I with rfl|⟨b,o,z',rfl,hS,hw,he⟩;simp at J;omega;have R:z'=z:=(by rw[<-hw c (XaF hc)];exact aa);subst R;refine⟨.pointer (some ⟨b,o+U.toNat*z',none⟩), ?_,b,o+U.toNat*z',by simp,hS,EsRel.get hw he hc⟩;simp[Instr.indexAt,asIntOf,Zan hu,J,ZaO C,Addr.add_lit]
 rename_i e id i n room hu;cases C:Zbe P e with|none=>simp[C]at h|some z=>simp only[C,Xaa]at h;obtain⟨J,h⟩:=Zak h;split at h;rename_i es z' m hm;obtain⟨R,h⟩:=Zak h;cases h;simp only[VRel]at I|-;obtain⟨l,ad,cp,hl,rfl,ae,hle,I⟩:=I;have hr:=hI.row id l es z' m hl hm;have ab:l.z=z:=hr.zs.trans R;rcases I with⟨h0,_⟩|⟨rfl,_⟩;omega;refine⟨.pointer (some ⟨l.b,l.o+i*l.z+U.toNat*z,none⟩), ?_,l,hl, ?_⟩;simp[Instr.indexAt,asIntOf,Zan hu,J,ZaO C,Addr.add_lit];rw[ab,Xbv];simp[XbA];simp at h
 rename_i n e id i r hu;cases C:Zbe P e with|none=>simp[C]at h|some z=>simp only[C,Xaa]at h;obtain⟨J,h⟩:=Zak h;cases h;simp only[VRel]at I|-;obtain⟨l,hl,rfl⟩:=I;refine⟨.pointer (some ⟨l.b,l.o+i*l.z+r+U.toNat*z,none⟩), ?_,l,hl,by simp[XbA]⟩;simp[Instr.indexAt,asIntOf,Zan hu,J,ZaO C,Addr.add_lit,Instr.sureAddr]
 rename_i n e cs r hu;cases C:Zbe P e with|none=>simp[C]at h|some z=>simp only[C,Xaa]at h;obtain⟨J,h⟩:=Zak h;cases h;simp only[VRel,IRel]at I|-;obtain⟨b,o,rfl,hS,hc⟩:=I;refine⟨.pointer (some ⟨b,o+r+U.toNat*z,none⟩), ?_,b,o,by simp[XbA],hS,hc⟩;simp[Instr.indexAt,asIntOf,Zan hu,J,ZaO C,Addr.add_lit,Instr.sureAddr]
 simp at h;simp at h
def ZnR {t:TypeId} {x ix p:PV} {a j:Value} (h:ZiE P t x ix=some p) (R:VRel φ w S x a) (hj:VRel φ w S ix j):
 ∃u,(Instr.index t a j).run P w= .ok u w/\VRel φ w S p u:=by
 unfold ZiE at h;split at h;rename_i k C;simp only[VRel]at hj;subst hj;split at h;rename_i n e cs hu;cases U:Zbe P e with|none=>simp[U]at h|some z=>simp only[U,Xaa]at h;obtain⟨hb,h⟩:=Zak h;simp only[VRel]at R;obtain⟨arr,rfl,ho,hv⟩:=R;obtain⟨u,h1,h2⟩:=ZlX h ho hv;exact⟨u,by simp[Instr.index,asIntOf,Zan hu,hb,ZaO U,h1],h2⟩
 rename_i s hu;obtain⟨hb,h⟩:=Zak h;simp only[VRel]at R;subst R;cases hc:s.data.toList[C.toNat]? with|none=>simp[hc]at h|some b=>simp only[hc,Xal,Xaf]at h;subst h;have hs:s[C.toNat]? =some b:=(by have:=Xae.1 hc;obtain⟨I,aa⟩:=this;have J:C.toNat<s.size:=(by simpa using I);rw[getElem?_pos s C.toNat J];have ab:s.data[C.toNat]'(by simpa using I)=b:=(by simpa using aa);exact congrArg some ab);exact⟨_,by simp[Instr.index,asIntOf,Zan hu,hb,hs]<;>rfl,ZbF _ _⟩
 simp at h;simp at h
def Zq6 {ts:Array TypeId} {ty t:TypeId} {x p:PV} {a:Value} (U:Inv φ H w S B) (I:ts[0]? =some t) (h:ZeS P H t x=some p) (j:VRel φ w S x a):
 ∃u,(Builtin.len_ ts ty #[a]).run P w= .ok u w/\VRel φ w S p u:=by
 unfold ZeS at h;split at h;rename_i s hu;cases h;simp only[VRel]at j;subst j;exact⟨_,by simp[Builtin.len_,I,Zan hu]<;>rfl,ZbF _ _⟩;rename_i n e hu;cases h;exact⟨_,by simp[Builtin.len_,I,Zan hu]<;>rfl,ZbF _ _⟩;rename_i e hu;cases h;simp only[VRel]at j;subst j;exact⟨_,by simp[Builtin.len_,I,Zan hu]<;>rfl,ZbF _ _⟩;rename_i e es hu;cases h;simp only[VRel,IRel]at j;obtain⟨ad,c,rfl,_⟩:=j;exact⟨_,by simp[Builtin.len_,I,Zan hu]<;>rfl,ZbF _ _⟩;rename_i e id i n hu;cases h;simp only[VRel]at j;obtain⟨l,ad,c,_,rfl,_⟩:=j;exact⟨_,by simp[Builtin.len_,I,Zan hu]<;>rfl,ZbF _ _⟩;rename_i k e hu;cases h;simp only[VRel]at j;subst j;exact⟨_,by simp[Builtin.len_,I,Zan hu]<;>rfl,ZbF _ _⟩;rename_i k e id hu;split at h;rename_i es hm;cases h;simp only[VRel]at j;obtain⟨l,hl,rfl⟩:=j;obtain⟨_,C,clock,R,J,_⟩:=U.map id l es hl hm;have hlen:C.toList.length=es.length:=by clear R hm;generalize C.toList=el at J;induction es generalizing el with|nil=>simp only[VM]at J;simp[J]|cons x r ih=>obtain⟨k,v⟩:=x;obtain⟨e,l',rfl,_,_,h4⟩:=J;simp[ih _ h4]
 refine⟨.int .i64 C.size, ?_,by simp only[VRel];rw[<-hlen];simp⟩;simp[Builtin.len_,I,Zan hu,getObj,Sem.run,R,goInt];simp at h;simp at h
def ZnU {x p:PV} {a:Value} {i:Nat} (h:Zel (some x) i=some p) (j:VRel φ w S x a): ∃u,(Instr.extract a i).run P w= .ok u w/\VRel φ w S p u:=by unfold Zel at h;simp only[Xaa]at h;split at h;simp only[VRel]at j;obtain⟨arr,rfl,I⟩:=j;obtain⟨v,C,J⟩:=VL.get I h;simp at C;exact⟨v,by simp[Instr.extract,C],J⟩;simp at h
end
variable [Laid]
section
variable {P:Program} {w:World} {φ:Phi} {S:Nat->Prop} {B:Nat} {H:List Mem}
def ZiR (φ:Phi) (w:World) (S:Nat->Prop):Option PV->Option Value->Prop
 |none,v=>v=none
 |some p,v=> ∃u,v=some u/\VRel φ w S p u
def ZwB {n c x:Nat} {hi:Option PV} {I:Option Value} {isS:Bool} (C:bHi n hi=some x) (U:n<=c) (J:ZiR φ w S hi I):
 x<=n/\(match I with|some v=>Instr.sliceBound v c (if isS then .sliceAcap else .sliceAlen)|none=>pure n:Sem Nat).run P w= .ok x w:=by unfold bHi at C;split at C;cases C;simp only[ZiR]at J;subst J;exact⟨Xag _,rfl⟩;rename_i k j;obtain⟨R,C⟩:=Zak C;cases C;simp only[ZiR,VRel]at J;obtain⟨u,rfl,rfl⟩:=J;refine⟨by omega, ?_⟩;have:0<=j/\j<=(c:Int):=⟨R.1,by omega⟩;simp[Instr.sliceBound,asIntOf,this];cases C
def ZhS {x y:Nat} {lo:Option PV} {I:Option Value} (C:bLo x lo=some y) (J:ZiR φ w S lo I):
 y<=x/\(match I with|some v=>Instr.sliceBound v x .sliceB|none=>pure 0:Sem Nat).run P w= .ok y w:=by unfold bLo at C;split at C;cases C;simp only[ZiR]at J;subst J;exact⟨Xap _,rfl⟩;rename_i k j;obtain⟨R,C⟩:=Zak C;cases C;simp only[ZiR,VRel]at J;obtain⟨u,rfl,rfl⟩:=J;refine⟨by omega, ?_⟩;simp[Instr.sliceBound,asIntOf,R];cases C
def Zoz {n c:Nat} {lo hi:Option PV} {I J:Option Value} {l h:Nat} {isS:Bool} (R:Zfz n lo hi=some (l,h)) (hc:n<=c) (hl:ZiR φ w S lo I) (hh:ZiR φ w S hi J):
 (Instr.sliceBounds isS n c I J none).run P w= .ok (l,h,c) w/\l<=h/\h<=n:=by unfold Zfz at R;cases U:bHi n hi with|none=>simp[U]at R|some x=>simp only[U,Xaa]at R;cases hy:bLo x lo with|none=>simp[hy]at R|some y=>simp only[hy,Xaa,Xaf,Prod.mk.injEq]at R;obtain⟨rfl,rfl⟩:=R;obtain⟨aa,C⟩:=ZwB (P:=P) (isS:=isS) U hc hh;obtain⟨ab,j⟩:=ZhS (P:=P) hy hl;refine⟨?_,ab,aa⟩;cases J with|none=>(have e1:x=n:=(by simp at C;exact C.symm);subst e1;cases I with|none=>have e2:y=0:=(by simp at j;exact j.symm);subst e2;simp[Instr.sliceBounds]|some lv=>simp only[]at j;simp[Instr.sliceBounds,j])|some hv=>simp only[]at C;cases I with|none=>have e2:y=0:=(by simp at j;exact j.symm);subst e2;simp[Instr.sliceBounds,C]|some lv=>simp only[]at j;simp[Instr.sliceBounds,C,j]
def Zfm {n m c:Nat} {lo hi mx:Option PV} {ab ad ae:Option Value} {l h x:Nat} (hb:Zb0 n m lo hi mx=some (l,h,x)) (hn:n<=m) (hc:m<=c) (I:ZiR φ w S lo ab) (hh:ZiR φ w S hi ad) (hm:ZiR φ w S mx ae):
 ∃X,(Instr.sliceBounds true n c ab ad ae).run P w= .ok (l,h,X) w/\l<=h/\h<=x/\x<=m/\x<=X/\X<=c/\(mx=none\/X=x):=by
 unfold Zb0 at hb;split at hb;cases hb;rename_i af;have ag:mx.isSome=true->hi.isNone=true->False:=by intro a b;apply af;simp[a,b]
 clear af;obtain⟨h0,J,ah⟩:=Zai hb;obtain⟨l0,C,ai⟩:=Zai ah;obtain⟨x0,hz,aj⟩:=Zai ai;simp only[Xaf,Prod.mk.injEq]at aj;clear hb ah ai;obtain⟨rfl,rfl,rfl⟩:=aj;obtain⟨aa,_⟩:=ZhS (P:=P) C I;cases mx with|none=>(simp only[ZiR]at hm;subst hm;simp only[bMx,Xaf]at hz;subst hz;cases hi with|none=>(simp only[ZyG,Xaf]at J;subst J;simp only[ZiR]at hh;subst hh;refine⟨c, ?_,aa,hn,Xag _,hc,Xag _, .inl rfl⟩;cases lo with|none=>simp only[bLo,Xaf]at C;subst C;simp only[ZiR]at I;subst I;simp[Instr.sliceBounds]|some lv=>have h2:=(ZhS (P:=P) C I).2;obtain⟨u,rfl,_⟩:=I;simp only[]at h2;simp[Instr.sliceBounds,h2])|some hv=>(cases hv<;>simp only[ZyG]at J<;>try (cases J;done));rename_i k j;obtain⟨hj,J⟩:=Zak J;cases J;simp only[ZiR,VRel]at hh;obtain⟨u,rfl,rfl⟩:=hh;have R:0<=j/\j<=(c:Int):=⟨hj.1,by omega⟩;have al:j.toNat<=m:=(by omega);have U:(Instr.sliceBound (.int k j) c .sliceAcap).run P w= .ok j.toNat w:=(by simp[Instr.sliceBound,asIntOf,R]);refine⟨c, ?_,aa,al,Xag _,hc,Xag _, .inl rfl⟩;cases lo with|none=>simp only[bLo,Xaf]at C;subst C;simp only[ZiR]at I;subst I;simp[Instr.sliceBounds,Instr.sliceBound,asIntOf,R]|some lv=>have h2:=(ZhS (P:=P) C I).2;obtain⟨u,rfl,_⟩:=I;simp only[]at h2;simp[Instr.sliceBounds,U,h2])|some mv=>(cases mv<;>simp only[bMx]at hz<;>try (cases hz;done));rename_i k j;obtain⟨hj,hz⟩:=Zak hz;cases hz;simp only[ZiR,VRel]at hm;obtain⟨u,rfl,rfl⟩:=hm;have R:0<=j/\j<=(c:Int):=⟨by omega,by omega⟩;cases hi with|none=>exact(ag rfl rfl).elim|some hv=>(cases hv<;>simp only[ZyG]at J<;>try (cases J;done));rename_i k' j';obtain⟨an,J⟩:=Zak J;cases J;simp only[ZiR,VRel]at hh;obtain⟨u,rfl,rfl⟩:=hh;have ao:0<=j'/\j'<=(j.toNat:Int):=⟨an.1,by omega⟩;have U:(Instr.sliceBound (.int k j) c .slice3Acap).run P w= .ok j.toNat w:=(by simp[Instr.sliceBound,asIntOf,R]);have ak:(Instr.sliceBound (.int k' j') j.toNat .slice3B).run P w= .ok j'.toNat w:=(by rw[Instr.sliceBound];simp only[asIntOf];simp[-Int.ofNat_toNat,ao]);refine⟨j.toNat, ?_,aa,by omega,by omega,Xag _,by omega, .inr rfl⟩;cases lo with|none=>simp only[bLo,Xaf]at C;subst C;simp only[ZiR]at I;subst I;simp[Instr.sliceBounds,U,ak]|some lv=>(cases lv<;>simp only[bLo]at C<;>try (cases C;done));rename_i k2 j2;obtain⟨aq,C⟩:=Zak C;cases C;simp only[ZiR,VRel]at I;obtain⟨u,rfl,rfl⟩:=I;simp[Instr.sliceBounds,U,ak];simp[Instr.sliceBound,asIntOf];omega
def Zmu {t:TypeId} {x p:PV} {lo hi mx:Option PV} {a:Value} {J R U:Option Value} (hI:Inv φ H w S B) (h:ZbV P H t x lo hi mx=some p) (j:VRel φ w S x a)
 (hl:ZiR φ w S lo J) (hh:ZiR φ w S hi R) (hm:ZiR φ w S mx U): ∃u,(Instr.sliceAt t a J R U).run P w= .ok u w/\VRel φ w S p u:=by
 unfold ZbV at h;split at h;rename_i s hu;split at h;simp only[ZiR]at hm;subst hm;simp only[VRel]at j;subst j;cases I:Zfz s.size lo hi with|none=>simp[I]at h|some lh=>obtain⟨l,k⟩:=lh;simp only[I,Xal,Xaf]at h;subst h;obtain⟨hr,_⟩:=Zoz (P:=P) (isS:=false) I (Xag _) hl hh;exact⟨_,by simp[Instr.sliceAt,Instr.slice,Zan hu,hr]<;>rfl,ZhI _⟩
 cases h;rename_i e es hu;obtain⟨z,hz,h⟩:=Zai h;obtain⟨⟨l,k,x⟩,I,h⟩:=Zai h;obtain⟨af,h⟩:=Zak h;simp only[VRel,IRel]at j;obtain⟨C,c,rfl,hle,j⟩:=j;obtain⟨X,hr,h1,h2,h3,h4,h5,h6⟩:=Zfm (P:=P) I (Xag _) hle hl hh hm;have hlen:((es.take k).drop l).length=k-l:=by simp[Xbo,Xay];omega
 have ag:(Instr.sliceAt t (.slice (some C) es.length c) J R U).run P w= .ok (.slice (some (if X=l then C else C.add (l*z))) (k-l) (X-l)) w:=by simp[Instr.sliceAt,Instr.slice,Zan hu,hr,ZaO hz];try (split<;>rfl)
 have hA:((es.take k).drop l)=[]\/ ∃b o z',(if X=l then C else C.add (l*z))=⟨b,o,none⟩/\S b/\(∀x∈(es.take k).drop l,x.length=z')/\EsRel w S ((es.take k).drop l) b o:=by by_cases aa:X=l;left;have:k-l=0:=(by omega);exact Xbg.1 (by omega);rcases j with rfl|⟨b,o,z',rfl,hS,hw,he⟩;left;simp;right;have ab:l=0\/z'=z:=(by cases es with|nil=>left;simp at h3;omega|cons c0 r=>right;simp only[Zdd,beq_iff_eq]at af;rw[<-hw c0 Xai,af]);refine⟨b,o+l*z',z', ?_,hS,λx j=>hw x (XaR (XbD j)), ?_⟩;rw[if_neg aa];simp only[Addr.add_lit];rcases ab with rfl|rfl<;>simp;exact EsRel.drop l (λc hc=>hw c (XaR hc)) (by rw[Xay];omega) (EsRel.take k he)
 refine⟨_,ag, ?_⟩;have hL:VRel φ w S (.lst ((es.take k).drop l)) (.slice (some (if X=l then C else C.add (l*z))) (k-l) (X-l)):=by simp only[VRel,IRel];exact⟨_,X-l,by rw[hlen],by rw[hlen];omega,hA⟩
 cases mx with|none=>cases h;exact hL|some mv=>simp only[ZxH]at h;cases ae:Nat.beq k x with|false=>rw[ae]at h;cases h;exact hL|true=>have an:=Xar ae;have hX:X=x:=h6.elim (λh=>nomatch h) id;rw[ae]at h;cases h;show VRel φ w S (.clp ((es.take k).drop l)) _;simp only[VRel,IRel];exact⟨_,by rw[hlen,hX,an],hA⟩
 rename_i e id i n room hu;obtain⟨z,hz,h⟩:=Zai h;obtain⟨⟨l,k,x⟩,I,h⟩:=Zai h;simp only at h;split at h;rename_i es z' m ao;obtain⟨ab,h⟩:=Zak h;cases h;simp only[VRel]at j|-;obtain⟨lc,C,c,ah,rfl,ai,hle,j⟩:=j;obtain⟨X,hr,h1,h2,h3,h4,h5,h6⟩:=Zfm (P:=P) I ai hle hl hh hm;have aj:=hI.row id lc es z' m ah ao;have aq:lc.z=z:=aj.zs.trans ab;refine⟨.slice (some (if X=l then C else C.add (l*z))) (k-l) (X-l), ?_,lc,(if X=l then C else C.add (l*z)),X-l,ah,rfl,by omega,by omega, ?_⟩;simp[Instr.sliceAt,Instr.slice,Zan hu,hr,ZaO hz];split<;>rfl;by_cases aa:X=l;left;omega;rcases j with⟨h0,ar⟩|⟨rfl,ak⟩;omega;right;refine⟨?_, ?_⟩;rw[if_neg aa,Addr.add_lit,aq,Xbv];simp[XbA];have al:(i+l+(X-l))<=i+c:=by omega
 exact XaK (Xbx _ al) ak;cases h;rename_i e hu;simp only[VRel]at j;subst j;obtain⟨z,hz,h⟩:=Zai h;obtain⟨⟨l,k,x⟩,I,h⟩:=ZyD h;subst h;obtain⟨X,hr,h1,h2,h3,h4,h5,h6⟩:=Zfm (P:=P) I (Xag _) (Xag _) hl hh hm;have e1:k=0:=by omega
 have e2:l=0:=by omega
 have e3:X=0:=by omega
 subst e1;subst e2;subst e3;refine⟨.slice none 0 0, ?_,by simp only[VRel]⟩;simp[Instr.sliceAt,Instr.slice,Zan hu,hr,ZaO hz];cases h
def ZmI {w w':World} {b:Nat} (h:w'.heap[b]? =w.heap[b]?) (o:Nat):w'.frozen? ⟨b,o,none⟩=w.frozen? ⟨b,o,none⟩:=by simp[World.frozen?,h]
def RowAt.mono {φ':Phi} {w':World} {S':Nat->Prop} {l:Loc} {es:List (List PV)} {z:Nat} {m:Bool} (h:RowAt φ w S l es z m) (hp: ∀id l,φ id=some l->φ' id=some l) (R: ∀b,S b->S' b/\w'.heap[b]? =w.heap[b]?)
 (C:w'.heap[l.b]? =w.heap[l.b]?) (I:S' l.b->S l.b):RowAt φ' w' S' l es z m where
 zs:=h.zs
 top:=h.top
 wid:=h.wid
 cells:=VE.mono hp R _ _ _ C h.cells
 blk:=by obtain⟨cur,e,fz,U,h2,h3⟩:=h.blk;exact⟨cur,e,fz,by rw[C];exact U,h2,λhm j hj=>by rw[ZmI C];exact h3 hm j hj⟩
 own:=λhm J=>h.own hm (I J)
 frz:=λhm=>(R _ (h.frz hm)).1
def Inv.ext {w':World} {S':Nat->Prop} (j:Inv φ H w S B) (I:Below w.heap.size w w') (hS: ∀b,S b->S' b) (U: ∀b,S' b->b<w'.heap.size) (C: ∀b,b<w.heap.size->S' b->S b):Inv φ H w' S' B/\Evo H.length B φ S w φ S' w':=by
 have R: ∀b,S b->S' b/\w'.heap[b]? =w.heap[b]? :=λb h=>⟨hS b h,I.block b (j.stable b h)⟩
 refine⟨⟨?_, ?_, ?_,j.apart,U,XaK j.base I.size,Laid.mono _ _ _ _ R j.laid⟩,λ_ _ _ h=>h,R,λb aa h=>C b (Xa6 aa j.base) h,I.mono j.base⟩;intro id l h;have:=j.live id l h;exact⟨this.1,Xa6 this.2.1 I.size,this.2.2⟩;intro id l es z m h h2;exact(j.row id l es z m h h2).mono (λ_ _ h=>h) R (I.block _ (j.live id l h).2.1) (C _ (j.live id l h).2.1);intro id l es h h2;obtain⟨h3,J,clock,h4,h5⟩:=j.map id l es h h2;exact⟨λhx=>h3 (C _ (j.live id l h).2.1 hx),J,clock,by rw[I.block _ (j.live id l h).2.1];exact h4,VMc.mono (λ_ _ h=>h) R h5⟩
def Inv.foreign {w':World} (j:Inv φ H w S B) (C:Below w.heap.size w w'):Inv φ H w' (λb=>S b\/(w.heap.size<=b/\b<w'.heap.size)) B/\Evo H.length B φ S w φ (λb=>S b\/(w.heap.size<=b/\b<w'.heap.size)) w':=
 j.ext C (λb h=> .inl h) (λb h=>h.elim (λh=>Xa6 (j.stable b h) C.size) (λh=>h.2)) (λb I h=>h.elim id (λh=>by omega))
def Inv.add {w':World} {id:Nat} {es:List (List PV)} {z:Nat} {m0:Bool} {cur:Array Value} {e:TypeId} {fz:Nat×Nat} {vs:List Value} (I:Inv φ H w S B) (U:Below w.heap.size w w') (aj:φ id=none) (hH:H[id]? =some (.row es z m0))
 (J:w'.heap[w.heap.size]? =some (.cells cur e fz)) (ae: ∀c∈es,c.length=z) (hv:VL φ w S es.flatten vs) (h1: ∀c∈es.flatten,ZcT c=true) (af: ∀ (j:Nat) (v:Value),vs[j]? =some v->cur[j]? =some v)
 (ag:es.length*z<=cur.size) (ak: ∀j,j<cur.size-> ¬ (fz.1<=j/\j<fz.2)):
 ∃φ' S',Inv φ' H w' S' B/\Evo H.length B φ S w φ' S' w'/\φ' id=some ⟨w.heap.size,0,z,cur.size⟩/\(∀i,i≠id->φ' i=φ i):=by
 have aa:w.heap.size<w'.heap.size:=by rcases Xa5 w.heap.size w'.heap.size with h|h;exact h;rw[Array.getElem?_eq_none h]at J;cases J
 have ab:id<H.length:=(Xae.1 hH).1;let φ':Phi:=λi=>if i=id then some ⟨w.heap.size,0,z,cur.size⟩else φ i
 let S':Nat->Prop:=λb=>S b\/(m0=false/\b=w.heap.size)
 have hp: ∀i l,φ i=some l->φ' i=some l:=by intro i l h;show(if i=id then _ else φ i)=_;rw[if_neg];exact h;rintro rfl;rw[aj]at h;cases h
 have hs: ∀b,S b->S' b/\w'.heap[b]? =w.heap[b]? :=λb h=>⟨.inl h,U.block b (I.stable b h)⟩
 have ad: ∀b,b<w.heap.size->S' b->S b:=by rintro b aa (h|⟨_,h⟩);exact h;omega
 have hid:φ' id=some ⟨w.heap.size,0,z,cur.size⟩:=if_pos rfl;have C: ∀i,i≠id->φ' i=φ i:=λi h=>if_neg h
 refine⟨φ',S',⟨?_, ?_, ?_, ?_, ?_,XaK I.base U.size,Laid.mono _ _ _ _ hs I.laid⟩,⟨λi l _ h=>hp i l h,hs,λb al h=>ad b (Xa6 al I.base) h,U.mono I.base⟩,hid,C⟩;intro i l h;by_cases hi:i=id;subst hi;rw[hid]at h;cases h;exact⟨I.base,aa,ab⟩;rw[C i hi]at h;have:=I.live i l h;exact⟨this.1,Xa6 this.2.1 U.size,this.2.2⟩;intro i l es' z' m h h2;by_cases hi:i=id;subst hi;rw[hid]at h;cases h;rw[hH]at h2;cases h2;refine⟨rfl,ag,ae, ?_,⟨cur,e,fz,J,by simp, ?_⟩, ?_, ?_⟩;refine VE.of_flat (VC.of_vals (VL.mono hp hs _ _ hv) h1 ?_);intro j v hj;have hc:=af j v hj;simp[World.cell?,J,hc];intro _ j hj;have:=ak j hj;simp only[World.frozen?,J,Bool.and_eq_false_iff,decide_eq_false_iff_not];omega;rintro hm (an|⟨R,_⟩);have:=I.stable _ an;simp at this;rw[hm]at R;cases R;intro hm;exact .inr ⟨hm,rfl⟩;rw[C i hi]at h;exact(I.row i l es' z' m h h2).mono hp hs (U.block _ (I.live i l h).2.1) (ad _ (I.live i l h).2.1);intro i l es' h h2;by_cases hi:i=id;subst hi;rw[hH]at h2;cases h2;rw[C i hi]at h;obtain⟨h3,ah,clock,h4,h5⟩:=I.map i l es' h h2;exact⟨λhx=>h3 (ad _ (I.live i l h).2.1 hx),ah,clock,by rw[U.block _ (I.live i l h).2.1];exact h4,VMc.mono hp hs h5⟩;intro i j l l' m m' ai h h' hm R ha ao;by_cases hi:i=id;subst hi;rw[hid]at h;cases h;rw[C j (λe=>ai e.symm)]at h';have:=(I.live j l' h').2.1;show w.heap.size≠l'.b;omega;by_cases hj:j=id;subst hj;rw[hid]at h';cases h';rw[C i hi]at h;have:=(I.live i l h).2.1;show l.b≠w.heap.size;omega;rw[C i hi]at h;rw[C j hj]at h';exact I.apart i j l l' m m' ai h h' hm R ha ao;rintro b (h|⟨_,rfl⟩);exact Xa6 (I.stable b h) U.size;exact aa
def Inv.addMap {w':World} {id:Nat} {clock:Nat} (I:Inv φ H w S B) (R:Below w.heap.size w w') (ad:φ id=none) (hH:H[id]? =some (.map []))
 (J:w'.heap[w.heap.size]? =some (.map #[] clock)):
 ∃φ' S',Inv φ' H w' S' B/\Evo H.length B φ S w φ' S' w'/\φ' id=some ⟨w.heap.size,0,0,0⟩/\(∀i,i≠id->φ' i=φ i):=by
 have ae:w.heap.size<w'.heap.size:=by rcases Xa5 w.heap.size w'.heap.size with h|h;exact h;rw[Array.getElem?_eq_none h]at J;cases J
 have U:id<H.length:=(Xae.1 hH).1;let φ':Phi:=λi=>if i=id then some ⟨w.heap.size,0,0,0⟩else φ i
 have hp: ∀i l,φ i=some l->φ' i=some l:=by intro i l h;show(if i=id then _ else φ i)=_;rw[if_neg];exact h;rintro rfl;rw[ad]at h;cases h
 have hs: ∀b,S b->S b/\w'.heap[b]? =w.heap[b]? :=λb h=>⟨h,R.block b (I.stable b h)⟩
 have hid:φ' id=some ⟨w.heap.size,0,0,0⟩:=if_pos rfl;have C: ∀i,i≠id->φ' i=φ i:=λi h=>if_neg h
 refine⟨φ',S,⟨?_, ?_, ?_, ?_, ?_,XaK I.base R.size,Laid.mono _ _ _ _ hs I.laid⟩,⟨λi l _ h=>hp i l h,hs,λ_ _ h=>h,R.mono I.base⟩,hid,C⟩;intro i l h;by_cases hi:i=id;subst hi;rw[hid]at h;cases h;exact⟨I.base,ae,U⟩;rw[C i hi]at h;have:=I.live i l h;exact⟨this.1,Xa6 this.2.1 R.size,this.2.2⟩;intro i l es' z' m h h2;by_cases hi:i=id;subst hi;rw[hH]at h2;cases h2;rw[C i hi]at h;exact(I.row i l es' z' m h h2).mono hp hs (R.block _ (I.live i l h).2.1) λx=>x;intro i l es' h h2;by_cases hi:i=id;subst hi;rw[hid]at h;cases h;rw[hH]at h2;cases h2;exact⟨λhx=>by have:=I.stable _ hx;simp at this, #[],clock,J,rfl,λe he=>by simp at he,by simp⟩;rw[C i hi]at h;obtain⟨h3,aa,clock,h4,h5⟩:=I.map i l es' h h2;exact⟨h3,aa,clock,by rw[R.block _ (I.live i l h).2.1];exact h4,VMc.mono hp hs h5⟩;intro i j l l' m m' ab h h' hm af ha ag;by_cases hi:i=id;subst hi;rw[hid]at h;cases h;rw[C j (λe=>ab e.symm)]at h';have:=(I.live j l' h').2.1;show w.heap.size≠l'.b;omega;by_cases hj:j=id;subst hj;rw[hid]at h';cases h';rw[C i hi]at h;have:=(I.live i l h).2.1;show l.b≠w.heap.size;omega;rw[C i hi]at h;rw[C j hj]at h';exact I.apart i j l l' m m' ab h h' hm af ha ag;exact λb h=>Xa6 (I.stable b h) R.size
def Zj8 (w:World) (o:Obj):Below w.heap.size w (w.alloc o):=(Below.refl _ _).alloc (Xag _) o
def Zfp (w:World) (o:Obj):Below w.heap.size w (w.drew.alloc o):=((Below.refl _ _).drew).alloc (Xag _) o
def ZhD (w:World) (o:Obj):(w.alloc o).heap[w.heap.size]? =some o:=heap_alloc_new w o
def Zd4 (w:World) (o:Obj):(w.drew.alloc o).heap[w.heap.size]? =some o:=heap_alloc_new w.drew o
end
variable [Laid]
section
variable {P:Program} {w:World} {φ:Phi} {S:Nat->Prop} {B:Nat} {H:List Mem}
def Zku {x:PV} {es:List (List PV)} {v:Value} (hI:Inv φ H w S B) (h:elems H x=some es) (j:VRel φ w S x v):
 ∃a c,v= .slice a es.length c/\es.length<=c/\(es=[]\/ ∃b o z,a=some ⟨b,o,none⟩/\(∀c∈es,c.length=z)/\VE φ w S es b o):=by
 unfold elems at h;split at h;cases h;simp only[VRel]at j;subst j;exact⟨none,0,rfl,Xag _, .inl rfl⟩;cases h;simp only[VRel,IRel]at j;obtain⟨a,c,rfl,hle,j⟩:=j;refine⟨a,c,rfl,hle, ?_⟩;rcases j with j|⟨b,o,z,ha,_,hw,he⟩;exact .inl j;exact .inr ⟨b,o,z,congrArg some ha,hw,EsRel.toV _ _ _ he⟩;rename_i id i n room;split at h;rename_i C z m hm;obtain⟨hle,h⟩:=Zak h;cases h;simp only[VRel]at j;obtain⟨l,ad,c,hl,rfl,J,R,j⟩:=j;have U:n<=c:=XaK J R;have hlen:((C.drop i).take n).length=n:=by rw[Xay,Xbo];omega
 refine⟨some ad,c,by rw[hlen],by rw[hlen];exact U, ?_⟩;have I:=hI.row id l C z m hl hm;rcases j with⟨h0,_⟩|⟨rfl,_⟩;left;exact Xbg.1 (by omega);right;refine⟨l.b,l.o+i*l.z,z,rfl,λc hc=>I.wid c (XbD (XaR hc)), ?_⟩;rw[I.zs];exact VE.take n (VE.drop i I.wid (by omega) I.cells);cases h;cases h
def Zi3: ∀ {es:List (List PV)} {l:List UInt8},bytesOf es=some l-> ∃ns:List Int,es=ns.map (λn=> [PV.int .u8 n])/\l=ns.map (λn=>UInt8.ofNat n.toNat)
 | [],l,h=>by simp[bytesOf]at h;exact⟨[],rfl,by simp[h]⟩
 |c::r,l,h=>by unfold bytesOf at h;split at h;rename_i e;cases e;rename_i n J e;cases e;(cases j:bytesOf r with|none=>simp[j]at h|some R=>simp[j]at h;obtain⟨ns,C,I⟩:=Zi3 j;exact⟨n::ns,by simp[C],by simp[<-h,I]⟩);cases h
def Zqp {k:IntKind}: ∀ (ns:List Int),VL φ w S (ns.map (PV.int k)) (ns.map (Value.int k))
 | []=>by simp only[List.map_nil,VL]
 |n::ns=>by simp only[XaX,VL];exact⟨_,_,rfl,ZbF _ _,Zqp ns⟩
def ZlQ {k:IntKind}: ∀ (ns:List Int) (vs:List Value),VL φ w S (ns.map (PV.int k)) vs->vs=ns.map (Value.int k)
 | [],vs,h=>by simpa only[List.map_nil,VL]using h
 |n::ns,vs,h=>by simp only[XaX,VL,VRel]at h;obtain⟨v,r,rfl,rfl,h⟩:=h;simp[ZlQ ns r h]
def ZeD {α β:Type} (f:α->β) (l:List α):(l.map (λx=> [f x])).flatten=l.map f:=by induction l<;>simp_all
def ZoJ {n:Int} (I:0<=n) (J:n<128):Utf8.encode n=⟨#[UInt8.ofNat n.toNat]⟩:=by
 have j:Utf8.valid n=true:=by simp[Utf8.valid];omega
 have C:n.toNat<128:=by omega
 simp[Utf8.encode,j,C]
def Zps {s d:TypeId} {x p:PV} {a:Value} (U:Inv φ H w S B) (h:Zdp P H s d x=some p) (C:VRel φ w S x a):
 ∃u w' S',(convert s d a).run P w= .ok u w'/\Inv φ H w' S' B/\Evo H.length B φ S w φ S' w'/\VRel φ w' S' p u:=by
 unfold Zdp at h;split at h;rename_i x0 k k' n I hd;cases h;simp only[VRel]at C;subst C;refine⟨.int k (k.wrap n),w,S, ?_,U,Evo.refl _ _ _ _ _,ZbF _ _⟩;simp[convert,run_underlying I,run_underlying hd,Conv.intToInt];rename_i x0 st I hd;cases h;simp only[VRel]at C;subst C;refine⟨.string st,w,S, ?_,U,Evo.refl _ _ _ _ _,ZhI _⟩;cases x0<;>simp[convert,run_underlying I,run_underlying hd];rename_i x0 k n I hd;obtain⟨hn,h⟩:=Zak h;cases h;simp only[VRel]at C;subst C;refine⟨.string ⟨#[UInt8.ofNat n.toNat]⟩,w,S, ?_,U,Evo.refl _ _ _ _ _,ZhI _⟩;rw[run_convert_int_string w s d k n (by rw[I];rfl) hd,ZoJ hn.1 hn.2];rename_i e st I hd;simp only[VRel]at C;subst C;split at h;rename_i he;cases h;have key:(convert s d (.string st)).run P w= .ok (.slice (some ⟨w.heap.size,0,none⟩) st.size (grownCap w st.size 0 e))
    (w.drew.alloc (.cells (bytesRow st (grownCap w st.size 0 e)) e ((bytesRow st (grownCap w st.size 0 e)).size,(bytesRow st (grownCap w st.size 0 e)).size+1))):=run_bytes_of_string w s d e st I hd he
 obtain⟨h1,h2⟩:=U.foreign (Zfp w (.cells (bytesRow st (grownCap w st.size 0 e)) e ((bytesRow st (grownCap w st.size 0 e)).size,(bytesRow st (grownCap w st.size 0 e)).size+1)));refine⟨_,_,_,key,h1,h2, ?_⟩;simp only[VRel,IRel];have hlen:(byteCells st).length=st.size:=by simp[byteCells]
 refine⟨_,_,by rw[hlen],by rw[hlen];exact grownCap_ge _ _ _ _, .inr ⟨w.heap.size,0,1,rfl, .inr ⟨Xag _,by simp⟩, ?_, ?_⟩⟩;intro c hc;simp only[byteCells,XaU]at hc;obtain⟨b,_,rfl⟩:=hc;rfl;refine VE.toI _ _ _ (VE.of_flat ?_);have hf:(byteCells st).flatten=(st.data.toList.map λb=>(b.toNat:Int)).map (PV.int .u8):=by simp only[byteCells];rw[ZeD (λb:UInt8=>PV.int .u8 b.toNat),XbE];rfl
 rw[hf];refine VC.of_vals (Zqp _) (by simp[ZcT]) ?_;intro j v hj;have hb:=Zd4 w (.cells (bytesRow st (grownCap w st.size 0 e)) e ((bytesRow st (grownCap w st.size 0 e)).size,(bytesRow st (grownCap w st.size 0 e)).size+1));simp only[World.cell?,hb];simp only[Option.isSome_none,XaO,if_false,Xak];rw[bytesRow,Array.getElem?_append_left];simpa using hj;have:=(Xae.1 hj).1;simpa using this;cases h;rename_i x _ _ _ e I hd ab _;split at h;rename_i he;cases J:elems H x with|none=>simp[J]at h|some es=>simp only[J,Xaa]at h;cases R:bytesOf es with|none=>simp[R]at h|some l=>simp only[R,Xal,Xaf]at h;subst h;obtain⟨ad,c,rfl,hle,hc⟩:=Zku U J C;obtain⟨ns,rfl,rfl⟩:=Zi3 R;refine⟨_,w,S, ?_,U,Evo.refl _ _ _ _ _,ZhI _⟩;rw[run_convert_bytes_string w s d e _ _ _ I he hd];rcases hc with hc|⟨b,o,z,rfl,hw,hv⟩;have:ns=[]:=(by simpa using hc);subst this;(cases ad with|none=>simp[Conv.bytesToString];rfl|some ad=>have:=run_bytesToString (P:=P) w ad 0 c [] (by simp[loadCells,loadCellsFrom]);simp at this|-;exact this);have aa:=VE.flat hv;rw[ZeD (λn:Int=>PV.int .u8 n)]at aa;obtain⟨vs,h1,_,h3⟩:=VC.vals aa;have:=ZlQ _ _ h1;subst this;have hl:=run_loadCells_list (P:=P) w ⟨b,o,none⟩ (ns.map (Value.int .u8)) (λj v hj=>by rw[Addr.add_lit];exact h3 j v hj);rw[XaG]at hl|-;rw[run_bytesToString w _ _ _ ns hl,foldl_push_bytes];simp
 cases h;cases h
def ZiQ {tm:List (Nat×PV)} {a:Act} {N:Nat} (C:TRel φ w S N tm a) {x:Option Operand} {p:Option PV} (h:ZpS (ev tm) x=some p):ZiR φ w S p (x.map a.eval):=by cases x with|none=>simp[ZpS]at h;subst h;simp[ZiR]|some o=>simp only[ZpS]at h;cases j:ev tm o with|none=>simp[j]at h|some q=>simp[j]at h;subst h;exact⟨_,rfl,Zaw C j⟩
def Zn3 (a b:ByteArray):(a==b)=(a.data==b.data):=rfl
def Zz3 {a b:ByteArray} (h:(a==b)=true):a=b:=by rw[Zn3]at h;have:=eq_of_beq h;cases a;cases b;simp at this;simp[this]
def ZlC {t:TypeId} {e:TypeDesc×TypeId} (h:Zim P t=some e): ∃k,P.underlying t=some (.map k e.2)/\P.underlying k=some e.1:=by unfold Zim at h;split at h;rename_i k C hu;split at h;rename_i j;cases h;exact⟨k,hu,j⟩;rename_i j;cases h;exact⟨k,hu,j⟩;cases h;cases h
def Ky.val:Ky->Value
 | .s b=> .string b
 | .i k n=> .int k n
def Zmi {p:PV} {key:Ky} (h:keyOf p=some key):p=key.pv:=by unfold keyOf at h;split at h<;>cases h<;>rfl
def ZBn {key:Ky} {v:Value} (h:VRel φ w S key.pv v):v=key.val:=by cases key<;>simpa only[Ky.pv,VRel,Ky.val]using h
def ZBF (key:Ky):VRel φ w S key.pv key.val:=by cases key<;>simp only[Ky.pv,VRel,Ky.val]
def ZlR {key:Ky} {d:TypeDesc} (hd:Zfy key d=true) {q:PV} {b:Bool} (h:ZDs key q=some b) {v:Value} (j:VRel φ w S q v):Instr.sameNow d key.val v=some b/\(b=true->v=key.val):=by cases key with|s x=>(cases q<;>simp only[ZDs,Zua,Xaf]at h<;>try (cases h;done));rename_i y;simp only[VRel]at j;subst j h;(cases d<;>simp only[Zfy]at hd<;>try (cases hd;done));exact⟨rfl,λC=>by rw[Zz3 C];rfl⟩|i k n=>(cases q<;>simp only[ZDs]at h<;>try (cases h;done));rename_i k' m;simp only[VRel]at j;subst j;by_cases I:k=k';(·subst I;rw[if_pos rfl]at h;cases h;(cases d<;>simp only[Zfy]at hd<;>try (cases hd;done));refine⟨by simp[Ky.val,Instr.sameNow],λC=> ?_⟩;rw[eq_of_beq C];rfl);rw[if_neg I]at h;cases h
def Zhw {key:Ky} {d:TypeDesc} (hd:Zfy key d=true): ∀ {es:List (PV×PV)} {r:Option PV} {C:List MapEntry} (i:Nat),ZdM key es=some r->VM φ w S es C->
 ∃I,Instr.findNow d key.val C i=some I/\(match r,I with|none,none=>True|some p,some (j,v)=>VRel φ w S p v|_,_=>False)
 | [],r,C,i,h,J=>by simp[ZdM]at h;subst h;simp only[VM]at J;subst J;exact⟨none,rfl,trivial⟩
 |(k,v)::es,r,C,i,h,J=>by obtain⟨e,l',rfl,hk,R,hr⟩:=J;rw[ZdM]at h;cases U:ZDs key k with|none=>rw[U]at h;cases h|some b=>rw[U,Xaa]at h;obtain⟨h1,_⟩:=ZlR hd U hk;cases b with|true=>cases h;exact⟨some (i,e.val),by simp only[Instr.findNow,h1],R⟩|false=>obtain⟨I,h2,h3⟩:=Zhw hd (i+1) h hr;exact⟨I,by simp only[Instr.findNow,h1,h2],h3⟩
def ZpG {t:TypeId} {p:PV} (h:Zd8 P t=some p): ∃v,(zeroValue t).run P w= .ok v w/\VRel φ w S p v:=by unfold Zd8 at h;split at h;rename_i i hi;split at h;rename_i v j;exact⟨v,by simp[zeroValue,typeInfo,hi,j],Zj5 h⟩;cases h;cases h
def ZwZ {p:PV} {x:Sc} (h:ZFI p=some x) {v:Value} (j:VRel φ w S p v):v=x.val:=by cases p<;>simp only[ZFI]at h<;>first|(cases h;done)|(cases h;simpa only[VRel,Sc.val]using j)
def Zqb {t:TypeId} (h:notIfc P t=true): ∃d,P.underlying t=some d/\ ∀x,d≠ .interface x:=by unfold notIfc at h;split at h;cases h;rename_i d j hu;exact⟨d,hu,λx e=>j x e⟩;cases h
def ZpH {t:TypeId} {v p:PV} {a:Value} (h:Zhp P t (some v)=some p) (C:VRel φ w S v a): ∃u,(Instr.makeInterface t a).run P w= .ok u w/\VRel φ w S p u:=by unfold Zhp at h;rw[Xaa]at h;cases j:notIfc P t with|false=>rw[j]at h;cases h|true=>rw[j,cond_true]at h;obtain⟨x,I,rfl⟩:=Option.map_eq_some_iff.1 h;have:=ZwZ I C;subst this;obtain⟨d,hu,hd⟩:=Zqb j;refine⟨.iface t x.val, ?_,by simp only[VRel]⟩;cases d<;>first|exact absurd rfl (hd _)|simp[Instr.makeInterface,run_underlying hu]
def ZmU {j u:TypeId} {v p:PV} {ok:Bool} {a:Value} (h:Zg9 P (some v) u ok=some p) (C:VRel φ w S v a): ∃r,(Instr.typeAssert a j u ok).run P w= .ok r w/\VRel φ w S p r:=by unfold Zg9 at h;cases h
def Zcy {t:TypeId} {cs:List PV} (h:ZdO P t=some cs): ∃i v,P.info? t=some i/\i.zero=some v/\VL φ w S cs v.cells.toList/\(∀c∈cs,ZcT c=true):=by unfold ZdO at h;split at h;rename_i i hi;split at h;rename_i v j;exact⟨i,v,hi,j,(Zdz h).1,(Zdz (φ:=φ) (w:=w) (S:=S) h).2⟩;cases h;cases h
def Zdh {k:TypeId} {b:Bool} {key:Ky} {d:TypeDesc} (j:P.underlying k=some d) (hd:Zfy key d=true):(Instr.checkKey b 10000 k key.val).run P w= .ok () w:=by show(Instr.checkKey b (9999+1) k key.val).run P w=_;rw[Instr.checkKey];cases key<;>cases d<;>simp only[Zfy]at hd<;>first|(cases hd;done)|simp[run_underlying j,Ky.val]
def Zqx {x:PV} {a:Value} {es:List (PV×PV)} (J:Inv φ H w S B) (h:Zm7 H x=some es) (C:VRel φ w S x a):
 (a= .map none/\es=[])\/ ∃id l j clock,x= .map id/\φ id=some l/\H[id]? =some (.map es)/\a= .map (some l.b)/\w.heap[l.b]? =some (.map j clock)/\VM φ w S es j.toList:=by unfold Zm7 at h;split at h;cases h;simp only[VRel]at C;exact .inl ⟨C,rfl⟩;rename_i id;split at h;rename_i es' hm;cases h;simp only[VRel]at C;obtain⟨l,I,rfl⟩:=C;obtain⟨_,j,clock,R,U⟩:=J.map id l _ I hm;exact .inr ⟨id,l,j,clock,rfl,I,hm,rfl,R,U.1⟩;cases h;cases h
def Zlk {t:TypeId} {x k p:PV} {a j:Value} {ok:Bool} (hI:Inv φ H w S B) (h:Zec P H t x k ok=some p) (hx:VRel φ w S x a) (hj:VRel φ w S k j):
 ∃u,(Instr.lookup t a j ok).run P w= .ok u w/\VRel φ w S p u:=by
 unfold Zec at h;cases hs:Zim P t with
 |none=>simp[hs]at h
 |some e=>
  obtain⟨kt,hu,R⟩:=ZlC hs;simp only[hs,Xaa]at h;cases I:keyOf k with
  |none=>simp[I]at h
  |some key=>
   have ad:=Zmi I;subst ad;have hj:=ZBn hj;subst hj;simp only[I,Xaa]at h;cases hd:Zfy key e.1 with
   |false=>simp[hd]at h
   |true=>
   rw[hd,cond_true]at h;cases hm:Zm7 H x with
   |none=>simp[hm]at h
   |some es=>
   simp only[hm,Xaa]at h;cases U:ZdM key es with
   |none=>simp[U]at h
   |some r=>
    simp only[U,Xaa]at h;cases hz:Zd8 P e.2 with
    |none=>simp[hz]at h
    |some zero=>
     simp only[hz,Xaa,Xaf]at h;subst h;obtain⟨zv,aa,ab⟩:=ZpG (P:=P) (w:=w) (φ:=φ) (S:=S) hz;have J: ∀ (C:List MapEntry),Instr.findNow e.1 key.val C 0=some none->(Instr.findKey kt key.val C).run P w= .ok none w:=by intro C hf;simp[Instr.findKey,run_underlying R,hf]
     have found: ∀ (C:List MapEntry) jv,Instr.findNow e.1 key.val C 0=some (some jv)->(Instr.findKey kt key.val C).run P w= .ok (some jv) w:=by intro C jv hf;simp[Instr.findKey,run_underlying R,hf]
     have hzero:VRel φ w S (if ok=true then PV.tup [zero,PV.bool false]else zero) (if ok then .tuple #[zv, .bool false]else zv):=(by cases ok;simpa using ab;simp only[if_true,VRel];exact⟨_,rfl,_,_,rfl,ab,_,_,rfl,Zhi _,by simp only[VL]⟩);rcases Zqx hI hm hx with⟨rfl,rfl⟩|⟨id,l,C,clock,rfl,hl,ae,rfl,hb,hv⟩;simp[ZdM]at U;subst U;exact⟨_,by simp[Instr.lookup,run_underlying hu,Zdh R hd,J [] rfl,aa]<;>rfl,hzero⟩;obtain⟨r',h1,h2⟩:=Zhw hd 0 U hv;cases r with|none=>(cases r' with|some _=>exact h2.elim|none=>exact⟨_,by simp[Instr.lookup,run_underlying hu,getObj,Sem.run,hb,Zdh R hd,J _ h1,aa]<;>rfl,hzero⟩)|some q=>cases r' with|none=>exact h2.elim|some jv=>obtain⟨j,v⟩:=jv;refine⟨if ok then .tuple #[v, .bool true]else v,by simp[Instr.lookup,run_underlying hu,getObj,Sem.run,hb,Zdh R hd,found _ _ h1], ?_⟩;cases ok;simpa using h2;simp only[if_true,VRel];exact⟨_,rfl,_,_,rfl,h2,_,_,rfl,Zhi _,by simp only[VL]⟩
end
variable [Laid]
section
variable {P:Program} {w:World} {φ:Phi} {S:Nat->Prop} {B:Nat} {H:List Mem}
def Zhn {α:Type} (l:List α) (off:Nat) (cs:List α) (h:off+cs.length<=l.length):(splice l off cs).length=l.length:=by simp[splice];omega
def Zh8 {α:Type} (l:List α) (off:Nat):splice l off []=l:=by simp[splice]
def Zqh {α:Type} (l:List α) (off:Nat) (c:α) (cs:List α) (h:off<l.length):splice l off (c::cs)=splice (l.set off c) (off+1) cs:=by unfold splice;rw[Xbr (by simpa using h)];simp only[List.getElem_set_self,XbO (Xag off),Xa2,List.singleton_append,Xbs,Xbl];rw[XbU (by omega)];simp only[Xaq];rw[show off+1+cs.length=off+(cs.length+1)from by omega]
def Zkb: ∀ (vs:List Value) (off k:Nat) (cs:Array Value),off+k+vs.length<=cs.size->
 ((vs.zipIdx k).foldl (λ(cs:Array Value) (x:Value×Nat)=>cs.setIfInBounds (off+x.2) x.1) cs).toList=splice cs.toList (off+k) vs
 | [],off,k,cs,_=>by simp[Zh8]
 |v::vs,off,k,cs,h=>by simp only[Xaq]at h;simp only[List.zipIdx_cons,List.foldl_cons];rw[Zkb vs off (k+1) _ (by simp;omega)];rw[Zqh _ _ _ _ (by simp;omega)];simp[XbA]
def Zji (v:Value) (off:Nat) (cs:Array Value) (h:off+v.cells.size<=cs.size):
 (v.cells.zipIdx.foldl (λcs (c,j)=>cs.setIfInBounds (off+j) c) cs).toList=splice cs.toList off v.cells.toList:=by have:=Zkb v.cells.toList off 0 cs (by simpa using h);rw[<-Array.foldl_toList];simpa using this
def VL.splice {l:List PV} {vs:List Value} {cs:List PV} {us:List Value} {off:Nat} (h:VL φ w S l vs) (j:VL φ w S cs us):VL φ w S (splice l off cs) (splice vs off us):=by unfold Am.splice;rw[VL.length j];exact VL.append (VL.take off h) (VL.append j (VL.drop _ h))
def Zix {α:Type} {l:List α} {off:Nat} {cs:List α} {x:α} (h:x∈splice l off cs):x∈l\/x∈cs:=by unfold splice at h;simp only[XaJ]at h;rcases h with h|h|h;exact .inl (XaR h);exact .inr h;exact .inl (XbD h)
def Zg7 {p:PV} {v:Value} (h:VRel φ w S p v) (j: ∀vs,p≠ .tup vs):VL φ w S (cellsOf p) v.cells.toList/\(∀c∈cellsOf p,ZcT c=true):=by
 have one: ∀ {q:PV} {u:Value},VRel φ w S q u->ZcT q=true->u.cells= #[u]->VL φ w S [q] u.cells.toList/\(∀c∈ [q],ZcT c=true):=by intro q u C I J;rw[J];exact⟨⟨u,[],rfl,C,by simp only[VL]⟩,by simpa using I⟩
 cases p with|agg cs=>simp only[VRel]at h;obtain⟨arr,rfl,R,U⟩:=h;exact⟨U,R⟩|tup vs=>exact absurd rfl (j vs)|_=>refine one h rfl ?_;have:=ZrE rfl h;cases v<;>first|rfl|(simp[Value.oneCell']at this)
def ZyC (φ:Phi) (w:World) (S:Nat->Prop):List (Nat×PV)->List (Nat×Value)->Prop
 | [],l=>l=[]
 |(i,p)::r,l=> ∃v j,l=(i,v)::j/\VL φ w S (cellsOf p) v.cells.toList/\(∀c∈cellsOf p,ZcT c=true)/\ZyC φ w S r j
def Ze4 {place:Nat->Option (Nat×Nat)}: ∀ {parts:List (Nat×PV)} {ps:List (Nat×Value)} {cs I:List PV} {arr:Array Value},Zdn place cs parts=some I->ZyC φ w S parts ps->VL φ w S cs arr.toList->(∀c∈cs,ZcT c=true)->
 ∃C,Instr.fill place arr ps=some C/\VL φ w S I C.toList/\(∀c∈I,ZcT c=true)
 | [],ps,cs,I,arr,h,hp,R,U=>by simp[Zdn]at h;subst h;simp only[ZyC]at hp;subst hp;exact⟨arr,rfl,R,U⟩
 |(i,p)::r,ps,cs,I,arr,h,hp,R,U=>by
  obtain⟨v,l',rfl,hc,ho,hr⟩:=hp;simp only[Zdn]at h;cases J:place i with
  |none=>simp[J]at h
  |some on=>
   obtain⟨off,n⟩:=on;simp only[J,Xaa]at h;obtain⟨⟨hl,hle⟩,h⟩:=Zak h;have aa:v.cells.size=n:=(by have:=VL.length hc;simpa[hl]using this);have ae:arr.size=cs.length:=(by have:=VL.length R;simpa using this);have ab:=Zji v off arr (by omega);obtain⟨C,h2,h3,h4⟩:=Ze4 (arr:=v.cells.zipIdx.foldl (λcs (c,j)=>cs.setIfInBounds (off+j) c) arr) h hr (by rw[ab];exact VL.splice R hc)
    (λc ad=>(Zix ad).elim (U c) (ho c))
   refine⟨C, ?_,h3,h4⟩;simp only[Instr.fill,J];rw[if_neg (by simp[aa];omega)];exact h2
def Zd6 {α:Type} {z:Nat}: ∀ (es:List (List α)) (i:Nat) (c:List α),(∀x∈es,x.length=z)->c.length=z->i<es.length->(es.set i c).flatten=splice es.flatten (i*z) c
 | [],i,c,_,_,hi=>by simp at hi
 |e::es,0,c,j,C,_=>by have he:e.length=z:=j e Xai;simp[splice,C,<-he]
 |e::es,i+1,c,j,C,hi=>by have he:e.length=z:=j e Xai;simp only[List.set_cons_succ,XbW];rw[Zd6 es i c (λx I=>j x (Xaj _ I)) C (by simpa using hi)];unfold splice;have J:(i+1)*z=e.length+i*z:=(by rw[Xbv,he];omega);rw[J,List.take_length_add_append,show e.length+i*z+c.length=e.length+(i*z+c.length)from by omega,List.drop_length_add_append];simp
def Za0 {α:Type} {z:Nat}: ∀ (es:List (List α)),(∀x∈es,x.length=z)->es.flatten.length=es.length*z
 | [],_=>by simp
 |e::es,j=>by simp only[XbW,Xas,Xaq];rw[Za0 es (λx C=>j x (Xaj _ C)),j e Xai,Xbv];omega
def ZhC {z:Nat}: ∀ {parts:List (Nat×PV)} {ps:List (Nat×Value)} {es es':List (List PV)} {arr:Array Value},Zdo z es parts=some es'->ZyC φ w S parts ps->VL φ w S es.flatten arr.toList->(∀c∈es.flatten,ZcT c=true)->(∀x∈es,x.length=z)->
 ∃C,Instr.fill (λi=>some (i*z,z)) arr ps=some C/\VL φ w S es'.flatten C.toList/\(∀c∈es'.flatten,ZcT c=true)/\(∀x∈es',x.length=z)/\es'.length=es.length
 | [],ps,es,es',arr,h,hp,R,U,J=>by simp[Zdo]at h;subst h;simp only[ZyC]at hp;subst hp;exact⟨arr,rfl,R,U,J,rfl⟩
 |(i,p)::r,ps,es,es',arr,h,hp,R,U,J=>by
  obtain⟨v,l',rfl,hc,ho,hr⟩:=hp;simp only[Zdo]at h;obtain⟨⟨hl,hi⟩,h⟩:=Zak h;have aa:v.cells.size=z:=(by have:=VL.length hc;simpa[hl]using this);have af:arr.size=es.length*z:=(by have:=VL.length R;rw[Za0 es J]at this;simpa using this);have hb:i*z+z<=es.length*z:=(by rw[<-Nat.succ_mul];exact Xbx _ hi);have ab:=Zji v (i*z) arr (by omega);have I:=Zd6 es i (cellsOf p) J hl hi;have ad: ∀x∈es.set i (cellsOf p),x.length=z:=by intro x hx;rcases Xa4 hx with hx|rfl;exact J x hx;exact hl
  obtain⟨C,h2,h3,h4,h5,h6⟩:=ZhC (arr:=v.cells.zipIdx.foldl (λcs (c,j)=>cs.setIfInBounds (i*z+j) c) arr) h hr
   (by rw[ab,I];exact VL.splice R hc) (by rw[I];exact λc ae=>(Zix ae).elim (U c) (ho c)) ad
  refine⟨C, ?_,h3,h4,h5,by rw[h6,XaB]⟩;simp only[Instr.fill];rw[if_neg (by simp[aa];omega)];exact h2
def Zus {v p:PV} (h:Zjo v=some p):p=v/\ ∀vs,p≠ .tup vs:=by cases v<;>simp[Zjo]at h<;>subst h<;>exact⟨rfl,by simp⟩
def Zf8 {x:Option PV} {p:PV} (h:x.bind Zjo=some p):x=some p/\ ∀vs,p≠ .tup vs:=by cases x with|none=>simp at h|some v=>simp at h;obtain⟨rfl,j⟩:=Zus h;exact⟨rfl,j⟩
def Ze5 {tm:List (Nat×PV)} {a:Act} {N:Nat} (I:TRel φ w S N tm a): ∀ {parts:List (Nat×Operand)} {ps:List (Nat×PV)},Za4 (λx:Nat×Operand=>((ev tm x.2).bind Zjo).map λv=>(x.1,v)) parts=some ps->
 ZyC φ w S ps (parts.map λ(i,x)=>(i,a.eval x))
 | [],ps,h=>by simp[Zcr]at h;subst h;simp[ZyC]
 |(i,x)::parts,ps,h=>by obtain⟨b,s,j,J,rfl⟩:=ZaF h;cases he:(ev tm x).bind Zjo with|none=>simp[he]at j|some v=>simp[he]at j;subst j;obtain⟨C,R⟩:=Zf8 he;have:=Zg7 (Zaw I C) R;exact⟨a.eval x,_,rfl,this.1,this.2,Ze5 I J⟩
def Zdk (z:Array Value) (n:Nat):(madeCells z (n*z.size)).toList=(List.replicate n z.toList).flatten:=by
 induction n with
 |zero=>simp[madeCells]
 |succ n I=>
  rw[List.replicate_succ,XbW,<-I];have e:(n+1)*z.size=z.size+n*z.size:=(by rw[Xbv];omega);have C: ∀m,(madeCells z m).toList=(List.range m).map (z[· % z.size]!):=by intro m;simp[madeCells]
  rw[C,C,e,List.range_add,Xby,XbE];congr 1;apply List.ext_getElem;simp;intro i R J;have hi:i<z.size:=(by simpa using J);simp[Nat.mod_eq_of_lt hi,hi];apply Xbd;intro j _;simp[Function.comp]
def Zkq: ∀ (j:List Field) (ns:List Nat),Za4 (λf:Field=>Zbe P f.type) j=some ns->
 ∃places:List (Nat×Nat),(j.mapM λf=>(do pure (f.offset,<-sizeOf f.type):Sem (Nat×Nat))).run P w= .ok places w/\ ∀i:Nat,places[i]? =(j[i]?).bind λf:Field=>(Zbe P f.type).map λn=>(f.offset,n)
 | [],ns,h=>⟨[],rfl,by simp⟩
 |f::j,ns,h=>by obtain⟨b,s,C,I,rfl⟩:=ZaF h;obtain⟨pl,J,R⟩:=Zkq j s I;refine⟨(f.offset,b)::pl, ?_, ?_⟩;rw[List.mapM_cons];simp only[Sem.run_bind,ZaO C,Result.andThen_ok,Sem.run_pure,J];intro i;cases i with|zero=>simp[C]|succ i=>simp[R]
def ZmD {t:TypeId} {parts:List (Nat×PV)} {ps:Array (Nat×Value)} {p:PV} (h:ZiK P t parts=some p) (hp:ZyC φ w S parts ps.toList):
 ∃u,(Instr.build t ps).run P w= .ok u w/\VRel φ w S p u:=by unfold ZiK at h;cases hz:ZdO P t with|none=>simp[hz]at h|some zero=>simp only[hz,Xaa]at h;obtain⟨i,v,hi,aa,hv,ho⟩:=Zcy (w:=w) (φ:=φ) (S:=S) hz;have I:(zeroValue t).run P w= .ok v w:=(by simp[zeroValue,typeInfo,hi,aa]);split at h;rename_i J hu;(cases hf:Zdn (λi:Nat=>(J[i]?).bind λf:Field=>(Zbe P f.type).map λn=>(f.offset,n)) zero parts with|none=>simp[hf]at h|some cs=>simp only[hf,Xaa]at h;cases j:Za4 (λf:Field=>Zbe P f.type) J.toList with|none=>simp[j]at h|some ns=>simp only[j,Xal,Xaf]at h;subst h;obtain⟨pl,ab,ad⟩:=Zkq (P:=P) (w:=w) J.toList ns j;obtain⟨arr,U,h2,h3⟩:=Ze4 hf hp hv ho;have R:(λi:Nat=>(J[i]?).bind λf:Field=>(Zbe P f.type).map λn=>(f.offset,n))=(pl.toArray[·]?):=(by funext i;simp[ad]);rw[R]at U;refine⟨.agg arr, ?_,by simp only[VRel];exact⟨arr,rfl,h3,h2⟩⟩;have ae:(J.mapM λf=>(do pure (f.offset,<-sizeOf f.type):Sem (Nat×Nat))).run P w= .ok pl.toArray w:=(by rw[Array.mapM_eq_mapM_toList];simp only[Sem.run_map,ab,Result.andThen_ok]);simp only[Instr.build,Sem.run_bind,I,Result.andThen_ok,Zan hu,ae,U,Sem.run_pure]);rename_i n e hu;(cases C:Zbe P e with|none=>simp[C]at h|some n=>simp only[C,Xaa]at h;cases hf:Zdn (λi=>some (i*n,n)) zero parts with|none=>simp[hf]at h|some cs=>simp only[hf,Xal,Xaf]at h;subst h;obtain⟨arr,U,h2,h3⟩:=Ze4 hf hp hv ho;refine⟨.agg arr, ?_,by simp only[VRel];exact⟨arr,rfl,h3,h2⟩⟩;simp only[Instr.build,Sem.run_bind,I,Result.andThen_ok,Zan hu,ZaO C,U,Sem.run_pure]);cases h
def ZeP {t e:TypeId} (h:ZjX P t=some e):P.underlying t=some (.slice e):=by unfold ZjX at h;split at h;cases h;assumption;cases h
def Zh9 {t:TypeId} {n:Nat} {parts:List (Nat×PV)} {ps:Array (Nat×Value)} {m:Mem} (h:ZbK P t n parts=some m) (hp:ZyC φ w S parts ps.toList):
 ∃es z arr e,m= .row es z true/\(Instr.buildSlice t n ps).run P w= .ok (.slice (some ⟨w.heap.size,0,none⟩) n n) (w.alloc (.cells arr e))/\es.length=n/\VL φ w S es.flatten arr.toList/\(∀c∈es.flatten,ZcT c=true)/\(∀x∈es,x.length=z):=by
 unfold ZbK at h;cases he:ZjX P t with
 |none=>simp[he]at h
 |some e=>
  have hu:=ZeP he;simp only[he,Xaa]at h;cases U:Zbe P e with
  |none=>simp[U]at h
  |some z=>
   simp only[U,Xaa]at h;cases j:ZdO P e with
   |none=>simp[j]at h
   |some zero=>
    simp only[j,Xaa]at h;obtain⟨⟨I,ak,J,aj⟩,h⟩:=Zak h;by_cases aa:n=0;subst aa;have ab:parts=[]:=I.elim (λh=>absurd h (Nat.lt_irrefl 0)) id;subst ab;simp only[List.replicate_zero,Zdo,Xal,Xaf]at h;subst h;have ad:ps= #[]:=(by apply Array.ext';cases ae:ps.toList with|nil=>rfl|cons x r=>rw[ae]at hp;simp[ZyC]at hp);subst ad;refine⟨[],z, #[],e,rfl, ?_,rfl,by simp[VL],by simp,by simp⟩;unfold Instr.buildSlice;simp[Zan hu,ZaO U,Instr.fill,newRow,run_newObj];rw[show Array.range 0= #[]from by apply Array.ext';simp[Array.toList_range],Array.map_empty];have al:0<n:=(by omega);cases hf:Zdo z (List.replicate n zero) parts with
    |none=>simp[hf]at h
    |some es=>
     simp only[hf,Xal,Xaf]at h;subst h;obtain⟨i,v,hi,af,hv,ho⟩:=Zcy (w:=w) (φ:=φ) (S:=S) j;have ag:(zeroValue e).run P w= .ok v w:=(by simp[zeroValue,typeInfo,hi,af]);have ah:v.cells.size=z:=(by have:=VL.length hv;simpa[J]using this);have R: ∀k,VL φ w S (List.replicate k zero).flatten (List.replicate k v.cells.toList).flatten:=by intro k;induction k with|zero=>simp[VL]|succ k ih=>simp only[List.replicate_succ,XbW];exact VL.append hv ih
     have C:(madeCells v.cells (n*z)).toList=(List.replicate n v.cells.toList).flatten:=(by rw[<-ah];exact Zdk _ _);obtain⟨arr,h1,h2,h3,h4,h5⟩:=ZhC (arr:=madeCells v.cells (n*z)) hf hp (by rw[C];exact R n)
      (by intro c hc;simp only[List.mem_flatten,List.mem_replicate]at hc;obtain⟨l,⟨_,rfl⟩,hc⟩:=hc;exact ho c hc)
      (by intro x hx;rw[(List.mem_replicate.1 hx).2];exact J)
     refine⟨es,z,arr,e,rfl, ?_,by simpa using h5,h2,h3,h4⟩;have ai: ¬n*z=0:=by intro hh;rcases Nat.mul_eq_zero.1 hh with h|h<;>omega
     have hle: ¬n*z>2^24:=by have:(2:Nat)^24=16777216:=by decide
                             omega
     unfold Instr.buildSlice;simp only[Sem.run_bind,Zan hu,Result.andThen_ok,ZaO U,if_neg hle,if_neg ai,Sem.run_pure,ag];unfold madeCells at h1;simp only[h1,newRow,Sem.run_bind,run_newObj,Result.andThen_ok,Sem.run_pure];rfl
end
variable [Laid]
section
variable {P:Program} {w:World} {φ:Phi} {S:Nat->Prop} {B:Nat} {H:List Mem}
def ZAD (φ:Phi) (ids:List Nat) (b:Nat):Prop:= ∃id∈ids,∃l,φ id=some l/\l.b=b
def Zdm (S:Nat->Prop) (φ:Phi) (ids:List Nat) (b:Nat):Prop:=S b\/ZAD φ ids b
def ZqJ {f:PV->Option PV} {es es':List (List PV)} {z:Nat} (h:Za4 (Za4 f) es=some es') (j: ∀x∈es,x.length=z): ∀x∈es',x.length=z:=by intro x C;obtain⟨y,I,he⟩:=ZjJ h x C;rw[Zfl he];exact j y I
section
variable {ids:List Nat} {n:Nat}
def ZdD (U: ∀v q c,exp n H v=some q->VRel φ w S v c->(∀id∈rch n H v,id∈ids)->IRel w (Zdm S φ ids) q c/\(ZcT v=true->ZcT q=true)):
 ∀ (vs qs:List PV) (cs:List Value),Za4 (exp n H) vs=some qs->VL φ w S vs cs->(∀id∈vs.flatMap (rch n H),id∈ids)->LRel w (Zdm S φ ids) qs cs/\((∀v∈vs,ZcT v=true)-> ∀q∈qs,ZcT q=true)
 | [],qs,cs,h,j,_=>by simp[Zcr]at h;subst h;simp only[VL]at j;exact⟨by simp only[LRel];exact j,by simp⟩
 |v::vs,qs,cs,h,j,hr=>by
  obtain⟨q,s,h1,h2,rfl⟩:=ZaF h;simp only[VL]at j;obtain⟨c,r,rfl,C,I⟩:=j;have J: ∀id∈rch n H v,id∈ids:=λid hid=>hr id (by simp[Xa7,hid])
  have R: ∀id∈vs.flatMap (rch n H),id∈ids:=λid hid=>hr id (by rw[Xa7];exact XaT _ hid)
  obtain⟨a1,a2⟩:=U v q c h1 C J;obtain⟨b1,b2⟩:=ZdD U vs s r h2 I R;refine⟨by simp only[LRel];exact⟨c,r,rfl,a1,b1⟩,λho x hx=> ?_⟩;rcases Xau.1 hx with rfl|hx;exact a2 (ho v Xai);exact b2 (λy hy=>ho y (Xaj _ hy)) x hx
def Zig (R: ∀v q c,exp n H v=some q->VRel φ w S v c->(∀id∈rch n H v,id∈ids)->IRel w (Zdm S φ ids) q c/\(ZcT v=true->ZcT q=true)):
 ∀ (vs qs:List PV) (b o:Nat),Za4 (exp n H) vs=some qs->VC φ w S vs b o->(∀id∈vs.flatMap (rch n H),id∈ids)->CsRel w (Zdm S φ ids) qs b o
 | [],qs,b,o,h,U,_=>by simp[Zcr]at h;subst h;simp only[CsRel]
 |v::vs,qs,b,o,h,U,hr=>by
  obtain⟨q,s,h1,h2,rfl⟩:=ZaF h;obtain⟨⟨ho,c,hc,j⟩,C⟩:=U;have I: ∀id∈rch n H v,id∈ids:=λid hid=>hr id (by simp[Xa7,hid])
  have J: ∀id∈vs.flatMap (rch n H),id∈ids:=λid hid=>hr id (by rw[Xa7];exact XaT _ hid)
  obtain⟨a1,a2⟩:=R v q c h1 j I;simp only[CsRel];exact⟨⟨a2 ho,c,hc,a1⟩,Zig R vs s b (o+1) h2 C J⟩
def ZlD (J: ∀v q c,exp n H v=some q->VRel φ w S v c->(∀id∈rch n H v,id∈ids)->IRel w (Zdm S φ ids) q c/\(ZcT v=true->ZcT q=true)):
 ∀ (es qs:List (List PV)) (b o:Nat),Za4 (Za4 (exp n H)) es=some qs->VE φ w S es b o->(∀id∈es.flatMap (λc=>c.flatMap (rch n H)),id∈ids)->EsRel w (Zdm S φ ids) qs b o
 | [],qs,b,o,h,j,_=>by simp[Zcr]at h;subst h;simp only[EsRel]
 |c::es,qs,b,o,h,j,R=>by
  obtain⟨q,s,U,h2,rfl⟩:=ZaF h;have C: ∀id∈c.flatMap (rch n H),id∈ids:=λid hid=>R id (by rw[Xa7];exact Xa8 _ hid)
  have I: ∀id∈es.flatMap (λc=>c.flatMap (rch n H)),id∈ids:=λid hid=>R id (by rw[Xa7];exact XaT _ hid)
  simp only[EsRel];exact⟨Zig J c q b o U j.1 C,by rw[Zfl U];exact ZlD J es s b _ h2 j.2 I⟩
end
def ZfX (hI:Inv φ H w S B) (ids:List Nat): ∀ (n:Nat) (v q:PV) (c:Value),exp n H v=some q->VRel φ w S v c->(∀id∈rch n H v,id∈ids)->IRel w (Zdm S φ ids) q c/\(ZcT v=true->ZcT q=true)
 |0,v,q,c,h,_,_=>by simp[exp]at h
 |n+1,v,q,c,h,C,hr=>by
  have ih:=ZfX hI ids n;have ab: ∀b,S b->Zdm S φ ids b/\w.heap[b]? =w.heap[b]? :=λb hb=>⟨.inl hb,rfl⟩
  cases v with
  |nils=>simp only[exp,Xaf]at h;subst h;exact⟨by simpa only[IRel,VRel]using C,λ_=>rfl⟩
  |bool b=>simp only[exp,Xaf]at h;subst h;exact⟨by simpa only[IRel,VRel]using C,λ_=>rfl⟩
  |int k m=>simp only[exp,Xaf]at h;subst h;exact⟨by simpa only[IRel,VRel]using C,λ_=>rfl⟩
  |str s=>simp only[exp,Xaf]at h;subst h;exact⟨by simpa only[IRel,VRel]using C,λ_=>rfl⟩
  |nilp=>simp only[exp,Xaf]at h;subst h;exact⟨by simpa only[IRel,VRel]using C,λ_=>rfl⟩
  |nilf=>simp only[exp,Xaf]at h;subst h;exact⟨by simpa only[IRel,VRel]using C,λ_=>rfl⟩
  |nilm=>simp only[exp,Xaf]at h;subst h;exact⟨by simpa only[IRel,VRel]using C,λ_=>rfl⟩
  |ifc t x=>simp only[exp,Xaf]at h;subst h;exact⟨by simpa only[IRel,VRel]using C,λ_=>rfl⟩
  |nili=>simp only[exp,Xaf]at h;subst h;exact⟨by simpa only[IRel,VRel]using C,λ_=>rfl⟩
  |lst es=>simp only[exp,Xaf]at h;subst h;simp only[VRel]at C;exact⟨IRel.mono ab _ _ C,λ_=>rfl⟩
  |clp es=>simp only[exp,Xaf]at h;subst h;simp only[VRel]at C;exact⟨IRel.mono ab _ _ C,λ_=>rfl⟩
  |box cs r=>simp only[exp,Xaf]at h;subst h;simp only[VRel]at C;exact⟨IRel.mono ab _ _ C,λ_=>rfl⟩
  |map id=>simp[exp]at h
  |ref id i l room=>
   simp only[exp]at h;split at h;rename_i es z m hm;obtain⟨hle,h⟩:=Zak h;cases he:Za4 (Za4 (exp n H)) ((es.drop i).take l)with
    |none=>simp[he]at h
    |some qs=>
     simp only[he,Xal,Xaf]at h;subst h;refine⟨?_,λ_=>rfl⟩;simp only[VRel]at C;obtain⟨lc,ad,cp,U,rfl,ae,af,I⟩:=C;have ag:l<=cp:=XaK ae af;have hlen:((es.drop i).take l).length=l:=(by rw[Xay,Xbo];omega);have ah:qs.length=l:=(by rw[Zfl he,hlen]);have J: ∀x∈id::((es.drop i).take l).flatMap (λc=>c.flatMap (rch n H)),x∈ids:=by intro x I;apply hr;simp only[rch,hm];exact I
     have j:=hI.row id lc es z m U hm;simp only[IRel];refine⟨ad,cp,by rw[ah],by rw[ah];exact ag, ?_⟩;rcases I with⟨h0,_⟩|⟨rfl,_⟩;left;exact Xbg.1 (by omega);right;refine⟨lc.b,lc.o+i*lc.z,z,rfl, .inr ⟨id,J id Xai,lc,U,rfl⟩,ZqJ he (λx I=>j.wid x (XbD (XaR I))), ?_⟩;refine ZlD ih _ _ _ _ he ?_ (λx I=>J x (Xaj _ I));rw[j.zs];exact VE.take l (VE.drop i j.wid (by omega) j.cells)
   cases h
  |ptr id i r=>
   simp only[exp]at h;split at h;rename_i es z m hm;cases hc:es[i]? with
    |none=>simp[hc]at h
    |some cc=>
     simp only[hc,Xaa]at h;cases he:Za4 (exp n H) cc with
     |none=>simp[he]at h
     |some qs=>
      simp only[he,Xal,Xaf]at h;subst h;refine⟨?_,λ_=>rfl⟩;simp only[VRel]at C;obtain⟨lc,U,rfl⟩:=C;have J: ∀x∈id::cc.flatMap (rch n H),x∈ids:=by intro x I;apply hr;simp only[rch,hm,hc,XbH];exact I
      have j:=hI.row id lc es z m U hm;simp only[IRel];refine⟨lc.b,lc.o+i*lc.z,rfl, .inr ⟨id,J id Xai,lc,U,rfl⟩, ?_⟩;refine Zig ih _ _ _ _ he ?_ (λx I=>J x (Xaj _ I));rw[j.zs];exact VE.get j.wid j.cells hc
   cases h
  |func f a c'=>
   simp only[exp]at h;cases R:Za4 (exp n H) a with
   |none=>simp[R]at h
   |some a'=>
    cases h2:Za4 (exp n H) c' with
    |none=>simp[R,h2]at h
    |some c2=>
     simp only[R,h2,Xaa,Xal,Xaf]at h;subst h;simp only[VRel]at C;obtain⟨fs,cs,rfl,aa,ai⟩:=C;have J: ∀x∈a.flatMap (rch n H)++c'.flatMap (rch n H),x∈ids:=by intro x I;apply hr;simp only[rch];exact I
     refine⟨?_,λ_=>rfl⟩;simp only[IRel];exact⟨fs,cs,rfl,(ZdD ih a a' _ R aa λx I=>J x (Xa8 _ I)).1,(ZdD ih c' c2 _ h2 ai λx I=>J x (XaT _ I)).1⟩
  |agg cs=>simp only[exp]at h;cases R:Za4 (exp n H) cs with|none=>simp[R]at h|some qs=>simp only[R,Xal,Xaf]at h;subst h;simp only[VRel]at C;obtain⟨arr,rfl,ho,aa⟩:=C;obtain⟨a1,a2⟩:=ZdD ih cs qs _ R aa (λx I=>hr x (by simp only[rch];exact I));exact⟨by simp only[IRel];exact⟨arr,rfl,a2 ho,a1⟩,λh=>by simp[ZcT]at h⟩
  |tup cs=>simp only[exp]at h;cases R:Za4 (exp n H) cs with|none=>simp[R]at h|some qs=>simp only[R,Xal,Xaf]at h;subst h;simp only[VRel]at C;obtain⟨arr,rfl,aa⟩:=C;obtain⟨a1,a2⟩:=ZdD ih cs qs _ R aa (λx I=>hr x (by simp only[rch];exact I));exact⟨by simp only[IRel];exact⟨arr,rfl,a1⟩,λh=>by simp[ZcT]at h⟩
def Ztw: ∀ (n:Nat) (v:PV) (id:Nat),id∈rch n H v->id<H.length
 |0,v,id,h=>by simp[rch]at h
 |n+1,v,id,h=>by
  have J:=Ztw n;have C: ∀ (l:List PV),id∈l.flatMap (rch n H)->id<H.length:=by intro l C;obtain⟨x,_,I⟩:=XaZ.1 C;exact J x id I
  (cases v<;>simp only[rch]at h<;>try (simp at h;done));rename_i i j r;split at h;rename_i hm;rcases Xau.1 h with rfl|h;exact(Xae.1 hm).1;exact C _ h;simp at h;rename_i i j r;split at h;rename_i hm;rcases Xau.1 h with rfl|h;exact(Xae.1 hm).1;obtain⟨x,_,I⟩:=XaZ.1 h;exact C _ I;simp at h;rcases XaJ.1 h with h|h<;>exact C _ h;exact C _ h;exact C _ h
def Zc4: ∀ (n:Nat) (v:PV) (id:Nat),id∈rch n H v-> ∃es z m,H[id]? =some (.row es z m)
 |0,v,id,h=>by simp[rch]at h
 |n+1,v,id,h=>by
  have J:=Zc4 n;have C: ∀ (l:List PV),id∈l.flatMap (rch n H)-> ∃es z m,H[id]? =some (.row es z m):=by intro l C;obtain⟨x,_,I⟩:=XaZ.1 C;exact J x id I
  (cases v<;>simp only[rch]at h<;>try (simp at h;done));rename_i i j r;split at h;rename_i hm;rcases Xau.1 h with rfl|h;exact⟨_,_,_,hm⟩;exact C _ h;simp at h;rename_i i j r;split at h;rename_i hm;rcases Xau.1 h with rfl|h;exact⟨_,_,_,hm⟩;obtain⟨x,_,I⟩:=XaZ.1 h;exact C _ I;simp at h;rcases XaJ.1 h with h|h<;>exact C _ h;exact C _ h;exact C _ h
def ZiU:PV->Bool
 | .bool _| .int _ _| .str _| .nilp| .nils| .nilf| .nilm| .nili| .ifc _ _=>true
 | .lst es=>es.isEmpty
 |_=>false
def Zbn {S':Nat->Prop} {p:PV} {v:Value} (h:ZiU p=true) (j:IRel w S p v):IRel w S' p v:=by
 cases p<;>simp only[ZiU]at h<;>try (simp at h;done)
 all_goals first
  |(simpa only[IRel]using j)
  |(simp only[IRel]at j|-
    have he:_=[]:=XbS.1 h
    obtain⟨a,c,C,I,_⟩:=j
    exact⟨a,c,C,I, .inl he⟩)
def ZkJ {S':Nat->Prop}: ∀ {ps:List PV} {vs:List Value},ps.all ZiU=true->LRel w S ps vs->LRel w S' ps vs
 | [],_,_,j=>by simpa only[LRel]using j
 |p::ps,_,h,j=>by simp only[XbM,Xah]at h;simp only[LRel]at j|-;obtain⟨v,r,rfl,C,I⟩:=j;exact⟨v,r,rfl,Zbn h.1 C,ZkJ h.2 I⟩
def Zpe:PV->Bool
 | .agg cs=>cs.all ZiU
 |p=>ZiU p
def Zkc {S':Nat->Prop} {p:PV} {v:Value} (h:Zpe p=true) (j:IRel w S p v):IRel w S' p v:=by cases p with|agg cs=>simp only[Zpe]at h;simp only[IRel]at j|-;obtain⟨arr,rfl,C,j⟩:=j;exact⟨arr,rfl,C,ZkJ h j⟩|_=>exact Zbn h j
def Zjg {S':Nat->Prop}: ∀ {ps:List PV} {vs:List Value},ps.all Zpe=true->LRel w S ps vs->LRel w S' ps vs
 | [],_,_,j=>by simpa only[LRel]using j
 |p::ps,_,h,j=>by simp only[XbM,Xah]at h;simp only[LRel]at j|-;obtain⟨v,r,rfl,C,I⟩:=j;exact⟨v,r,rfl,Zkc h.1 C,Zjg h.2 I⟩
def ZuD {S':Nat->Prop} {p:PV} {v:Value} (h:ZhV p=true) (j:IRel w S p v):IRel w S' p v:=by
 cases p with
 |agg cs=>refine Zkc ?_ j;simp only[ZhV]at h;simp only[Zpe];rw[Xaw]at h|-;intro x C;have:=h x C;cases x<;>simp_all [ZiU]
 |tup vs=>
  simp only[IRel]at j|-;obtain⟨arr,rfl,j⟩:=j;refine⟨arr,rfl,Zjg ?_ j⟩;simp only[ZhV]at h;rw[Xaw]at h|-;intro x C;have:=h x C;cases x<;>simp_all [ZiU,Zpe];all_goals (
   rename_i cs
   intro y I
   have:=this y I
   cases y<;>simp_all [ZiU])
 |bool b=>exact Zbn rfl j
 |int k n=>exact Zbn rfl j
 |str s=>exact Zbn rfl j
 |nilp=>exact Zbn rfl j
 |nils=>exact Zbn rfl j
 |nilf=>exact Zbn rfl j
 |nilm=>exact Zbn rfl j
 |nili=>exact Zbn rfl j
 |ifc _ _=>exact Zbn rfl j
 |lst es=>exact Zbn h j
 |clp _=>simp[ZhV]at h
 |ptr _ _ _=>simp[ZhV]at h
 |ref _ _ _ _=>simp[ZhV]at h
 |map _=>simp[ZhV]at h
 |box _ _=>simp[ZhV]at h
 |func _ _ _=>simp[ZhV]at h
end
variable [Laid]
section
variable {P:Program} {h:Hints} {E:Ev} {w:World} {φ φ':Phi} {S:Nat->Prop} {B:Nat} {N:Nat} {tm:List (Nat × PV)} {a:Act} {H:List Mem}
def ZkW {tm:List (Nat×PV)}: ∀ {ks:List Nat} {t:Nat} {p:PV},get (Zpi tm ks) t=some p->get tm t=some p
 | [],t,p,h=>by simp[Zpi,Znk]at h
 |k::r,t,p,h=>by simp only[Zpi]at h;split at h;rename_i v j;rw[Zcu]at h;split at h;rename_i e;subst e;cases h;exact j;exact ZkW h;exact ZkW h
def ZoN (j:TRel φ w S N tm a) (ks:List Nat):TRel φ w S N (Zpi tm ks) a:=⟨j.1,j.2.1,λi p hp=>j.2.2 i p (ZkW hp)⟩
def Zmc: ∀ {l:List PV} {vs:List Value},(∀p∈l,∀v,VRel φ w S p v->VRel φ' w S p v)->VL φ w S l vs->VL φ' w S l vs
 | [],_,_,h=>by simpa only[VL]using h
 |p::ps,_,hp,h=>by simp only[VL]at h|-;obtain⟨v,r,j,C,I⟩:=h;exact⟨v,r,j,hp p Xai v C,Zmc (λq J=>hp q (Xaj _ J)) I⟩
def ZkS {p:PV} (j:Zgw p=true) {v:Value} (C:VRel φ w S p v):VRel φ' w S p v:=by
 cases p<;>simp only[Zgw]at j<;>try (cases j;done)
 case func f x y=>
  simp only[Xah,XbS]at j
  obtain⟨rfl,rfl⟩:=j
  simpa only[VRel,VL]using C
 case agg cs=>
  simp only[VRel]at C|-
  obtain⟨arr,I,J,R⟩:=C
  refine⟨arr,I,J,Zmc (λq U v C=> ?_) R⟩
  have:=Xaw.1 j q U
  cases q<;>simp only[]at this<;>first|(cases this;done)|(simpa only[VRel]using C)
 case tup vs=>
  simp only[XbS]at j
  subst j
  simpa only[VRel,VL]using C
 all_goals simpa only[VRel]using C
def ZtA: ∀ {l:List PV} {b o:Nat},(∀p∈l,Zgw p=true)->VC φ w S l b o->VC φ' w S l b o
 | [],_,_,_,_=>trivial
 |p::ps,b,o,j,h=>by obtain⟨⟨C,v,I,J⟩,R⟩:=h;exact⟨⟨C,v,I,ZkS (j p Xai) J⟩,ZtA (λq U=>j q (Xaj _ U)) R⟩
def ZtH: ∀ {l:List (List PV)} {b o:Nat},(∀c∈l,∀p∈c,Zgw p=true)->VE φ w S l b o->VE φ' w S l b o
 | [],_,_,_,_=>trivial
 |c::cs,b,o,j,h=>⟨ZtA (j c Xai) h.1,ZtH (λq C=>j q (Xaj _ C)) h.2⟩
def Zsj: ∀ {l:List (PV×PV)} {es:List MapEntry},(∀x∈l,Zgw x.1=true/\Zgw x.2=true)->VM φ w S l es->VM φ' w S l es
 | [],_,_,h=>h
 |(k,v)::r,es,j,h=>by obtain⟨e,C,I,J,R,U⟩:=h;have:=j (k,v) Xai;exact⟨e,C,I,ZkS this.1 J,ZkS this.2 R,Zsj (λq hq=>j q (Xaj _ hq)) U⟩
def reφ (φ:Phi) (ids:List Nat):Phi:=λi=>(ids[i]?).bind φ
def ZfL {i:Nat}: ∀ {l:List Nat},i∈l->l[pos i l]? =some i
 |j::r,h=>by simp only[pos];by_cases C:i=j;subst C;simp;have:Nat.beq i j=false:=(by cases I:Nat.beq i j with|true=>exact absurd (Xar I) C|false=>rfl);rw[this,cond_false];rcases Xau.1 h with h|h;exact absurd h C;simpa using ZfL h
def ZrF {ids:List Nat} {p:PV} (j: ∀i∈Zcz p,i∈ids) (I:Zen p=true) {v:Value} (C:VRel φ w S p v):VRel (reφ φ ids) w S (Zlo ids p) v:=by
 have key: ∀ {i:Nat} {l:Loc},i∈ids->φ i=some l->reφ φ ids (pos i ids)=some l:=λhi U=>by unfold reφ;rw[ZfL hi];exact U
 cases p<;>simp only[Zen]at I<;>try (cases I;done)
 case ref id i n room=>
  simp only[Zlo,VRel]at C|-
  obtain⟨l,a,c,J,R⟩:=C
  exact⟨l,a,c,key (j id (by simp[Zcz])) J,R⟩
 case ptr id i r=>
  simp only[Zlo,VRel]at C|-
  obtain⟨l,J,R⟩:=C
  exact⟨l,key (j id (by simp[Zcz])) J,R⟩
 case map id=>
  simp only[Zlo,VRel]at C|-
  obtain⟨l,J,R⟩:=C
  exact⟨l,key (j id (by simp[Zcz])) J,R⟩
 all_goals simpa only[Zlo,VRel]using C
def ZhH {ids:List Nat}: ∀ {l:List PV} {vs:List Value},(∀p∈l,(∀i∈Zcz p,i∈ids)/\Zen p=true)->VL φ w S l vs->VL (reφ φ ids) w S (l.map (Zlo ids)) vs
 | [],_,_,h=>by simpa only[List.map_nil,VL]using h
 |p::ps,_,hp,h=>by simp only[VL]at h;obtain⟨v,r,j,C,I⟩:=h;have:=hp p Xai;simp only[XaX,VL];exact⟨v,r,j,ZrF this.1 this.2 C,ZhH (λq J=>hp q (Xaj _ J)) I⟩
def ZyN (ids:List Nat) (p:PV):ZcT (Zlo ids p)=ZcT p:=by cases p<;>rfl
def ZmG {ids:List Nat} {p:PV} (j: ∀i∈Zb8 p,i∈ids) (C:ZbA p=true) {v:Value} (J:VRel φ w S p v):VRel (reφ φ ids) w S (ren ids p) v:=by
 cases p<;>simp only[ZbA,Zb8]at C j;case agg cs=>
  simp only[ren,VRel]at J|-
  obtain⟨arr,R,U,h3⟩:=J
  refine⟨arr,R, ?_,ZhH (λq I=>⟨λi hi=>j i (XaZ.2 ⟨q,I,hi⟩),Xaw.1 C q I⟩) h3⟩
  intro c hc
  obtain⟨q,I,rfl⟩:=XaU.1 hc
  rw[ZyN];exact U q I
 case func f x y=>
  simp only[Xah,Xaw]at C
  simp only[ren,VRel]at J|-
  obtain⟨fs,cs,R,U,h3⟩:=J
  exact⟨fs,cs,R,ZhH (λq I=>⟨λi hi=>j i (Xa8 _ (XaZ.2 ⟨q,I,hi⟩)),C.1 q I⟩) U,
   ZhH (λq I=>⟨λi hi=>j i (XaT _ (XaZ.2 ⟨q,I,hi⟩)),C.2 q I⟩) h3⟩
 case tup vs=>
  simp only[XbS]at C
  subst C
  simpa only[ren,Zlo,VRel,VL]using J
 all_goals (simp only[ren];exact ZrF j rfl J)
def Zcv: ∀ (xs ids:List Nat),ids.Nodup->(xs.foldl Zb6 ids).Nodup/\(∀i∈ids,i∈xs.foldl Zb6 ids)/\ ∀i∈xs,i∈xs.foldl Zb6 ids
 | [],ids,j=>⟨j,λ_ h=>h,by simp⟩
 |x::xs,ids,j=>by
  have C:(Zb6 ids x).Nodup:=(by unfold Zb6;split;exact j;rename_i I;rw[List.nodup_append];refine⟨j,by simp, ?_⟩;intro a ha b R;simp at R;subst R;rintro rfl;exact I (by simpa using ha));have J: ∀i∈ids,i∈Zb6 ids x:=by intro i hi;unfold Zb6;split;exact hi;exact Xa8 _ hi
  have I:x∈Zb6 ids x:=(by unfold Zb6;split;rename_i h;simpa using h;simp);obtain⟨h1,U,h3⟩:=Zcv xs (Zb6 ids x) C;refine⟨h1,λi hi=>U i (J i hi),λi hi=> ?_⟩;rcases Xau.1 hi with rfl|hi;exact U i I;exact h3 i hi
def ZqY (ids:List Nat): ∀ (tm:List (Nat×PV)) (t:Nat),get (tm.map λx=>(x.1,ren ids x.2)) t=(get tm t).map (ren ids)
 | [],t=>rfl
 |(j,v)::r,t=>by rw[XaX,Zcu,Zcu,ZqY ids r t];split<;>rfl
def Zvs: ∀ {tm:List (Nat×PV)} {t:Nat} {p:PV},get tm t=some p->(t,p)∈tm
 | [],t,p,h=>by simp[Znk]at h
 |(j,v)::r,t,p,h=>by rw[Zcu]at h;split at h;rename_i e;subst e;cases h;exact Xai;exact Xaj _ (Zvs h)
def Zm9 {α β:Type} {f:α->Option β}: ∀ {l:List α} {r:List β},Za4 f l=some r->r.length=l.length/\ ∀i:Nat,r[i]? =(l[i]?).bind f
 | [],r,h=>by simp[Zcr]at h;subst h;simp
 |x::l,r,h=>by obtain⟨b,s,j,C,rfl⟩:=ZaF h;obtain⟨I,J⟩:=Zm9 C;refine⟨by simp[I],λi=> ?_⟩;cases i with|zero=>simp[j]|succ i=>simpa using J i
def Zhg (H:List Mem): ∀ (n:Nat) (ids:List Nat),ids.Nodup->(Zfb H n ids).Nodup/\ ∀i∈ids,i∈Zfb H n ids
 |0,_,j=>⟨j,λ_ h=>h⟩
 |n+1,ids,j=>by obtain⟨C,I,_⟩:=Zcv (ids.flatMap (ZmE H)) ids j;obtain⟨J,R⟩:=Zhg H n _ C;exact⟨J,λi hi=>R i (I i hi)⟩
def ZDV (ids:List Nat) (p:PV):ZcT (ren ids p)=ZcT p:=by cases p<;>rfl
def ZBS {ids:List Nat}: ∀ {l:List PV} {b o:Nat},(∀p∈l,ZbA p=true/\ ∀i∈Zb8 p,i∈ids)->VC φ w S l b o->VC (reφ φ ids) w S (l.map (ren ids)) b o
 | [],_,_,_,_=>trivial
 |p::ps,b,o,j,h=>by obtain⟨⟨C,v,I,J⟩,R⟩:=h;have:=j p Xai;exact⟨⟨by rw[ZDV];exact C,v,I,ZmG this.2 this.1 J⟩,ZBS (λq U=>j q (Xaj _ U)) R⟩
def ZA9 {ids:List Nat}: ∀ {l:List (List PV)} {b o:Nat},(∀c∈l,∀p∈c,ZbA p=true/\ ∀i∈Zb8 p,i∈ids)->VE φ w S l b o->VE (reφ φ ids) w S (l.map λc=>c.map (ren ids)) b o
 | [],_,_,_,_=>trivial
 |c::cs,b,o,j,h=>⟨ZBS (j c Xai) h.1,by have:=ZA9 (λq C=>j q (Xaj _ C)) h.2;simpa using this⟩
def ZBf {ids:List Nat}: ∀ {l:List (PV×PV)} {es:List MapEntry},(∀x∈l,(ZbA x.1=true/\ ∀i∈Zb8 x.1,i∈ids)/\(ZbA x.2=true/\ ∀i∈Zb8 x.2,i∈ids))->VM φ w S l es->VM (reφ φ ids) w S (l.map λx=>(ren ids x.1,ren ids x.2)) es
 | [],_,_,h=>h
 |(k,v)::r,es,j,h=>by obtain⟨e,C,I,J,R,U⟩:=h;have:=j (k,v) Xai;exact⟨e,C,I,ZmG this.1.2 this.1.1 J,ZmG this.2.2 this.2.1 R,ZBf (λq hq=>j q (Xaj _ hq)) U⟩
def ZzD {ids:List Nat} {m:Mem} {es:List (List PV)} {z:Nat} {b:Bool} (C:Zns ids m= .row es z b) (R:okM m=true) (U: ∀i∈ZmR m,i∈ids) {l:Loc} (I: ∀es z b,m= .row es z b->RowAt φ w S l es z b):RowAt (reφ φ ids) w S l es z b:=by unfold Zns at C;cases hf:Zgz m with|true=>rw[hf,cond_true]at C;have j:=I es z b C;subst C;refine⟨j.zs,j.top,j.wid,ZtH (λc J p hp=> ?_) j.cells,j.blk,j.own,j.frz⟩;simp only[Zgz,Xaw]at hf;exact hf c J p hp|false=>rw[hf,cond_false]at C;cases m with|row aa z0 b0=>simp only[Mem.row.injEq]at C;obtain⟨rfl,rfl,rfl⟩:=C;have j:=I aa z0 b0 rfl;simp only[okM,hf,cond_false,Xaw]at R;simp only[ZmR,hf,cond_false,XaZ]at U;refine⟨j.zs,by simpa using j.top, ?_,ZA9 (λc J p hp=>⟨R c J p hp,λi hi=>U i ⟨c,J,p,hp,hi⟩⟩) j.cells,j.blk,j.own,j.frz⟩;intro c J;obtain⟨c0,ab,rfl⟩:=XaU.1 J;simpa using j.wid c0 ab|map _=>cases C|dead=>cases C
def Zsn {ids:List Nat} {m:Mem} {es:List (PV×PV)} (C:Zns ids m= .map es) (I:okM m=true) (J: ∀i∈ZmR m,i∈ids) {l:List MapEntry}: ∃j,m= .map j/\(VM φ w S j l->VM (reφ φ ids) w S es l):=by unfold Zns at C;cases hf:Zgz m with|true=>rw[hf,cond_true]at C;subst C;refine⟨es,rfl,Zsj λx R=> ?_⟩;simp only[Zgz,Xaw]at hf;simpa using hf x R|false=>rw[hf,cond_false]at C;cases m with|map j=>simp only[Mem.map.injEq]at C;subst C;simp only[okM,hf,cond_false,Xaw,Xah]at I;simp only[ZmR,hf,cond_false,XaZ,XaJ]at J;exact⟨j,rfl,ZBf λx R=>⟨⟨(I x R).1,λi hi=>J i ⟨x,R, .inl hi⟩⟩,⟨(I x R).2,λi hi=>J i ⟨x,R, .inr hi⟩⟩⟩⟩|row _ _ _=>cases C|dead=>cases C
def Zl7 (ids:List Nat) (m:Mem):(Zns ids m).alive=m.alive:=by unfold Zns;cases Zgz m with|true=>rfl|false=>cases m<;>rfl
def ZhQ {st:St} (R:Zer tm H=some st) (hI:Inv φ H w S B) (ht:TRel φ w S N tm a): ∃φ',Inv φ' st.hp w S B/\TRel φ' w S N st.tm a:=by
 unfold Zer at R;simp only[]at R;split at R;rename_i af;obtain⟨av,_,ag⟩:=Zcv (tm.flatMap λx=>Zb8 x.2) [] List.nodup_nil;obtain⟨hn,ah⟩:=Zhg H 3 _ av;have ai: ∀i∈tm.flatMap λx=>Zb8 x.2,i∈Zfb H 3 ((tm.flatMap λx=>Zb8 x.2).foldl Zb6 []):=λi hi=>ah i (ag i hi)
 generalize Zfb H 3 ((tm.flatMap λx=>Zb8 x.2).foldl Zb6 [])=ids at R hn ai;cases ho:Za4 (λi=>(H[i]?).bind λm=>if okM m&&(ZmR m).all ids.contains then some (Zns ids m)else none) ids with
  |none=>rw[ho]at R;cases R
  |some H'=>
   rw[ho]at R;simp only[Xal,Xaf]at R;subst R;obtain⟨hlen,aj⟩:=Zm9 ho;have hm: ∀ (i:Nat) (m:Mem),H'[i]? =some m-> ∃id m0,ids[i]? =some id/\H[id]? =some m0/\m=Zns ids m0/\okM m0=true/\ ∀j∈ZmR m0,j∈ids:=by intro i m hm;rw[aj i]at hm;obtain⟨id,C,hm⟩:=Zai hm;obtain⟨m',I,hm⟩:=Zai hm;obtain⟨hf,hm⟩:=Zak hm;cases hm;simp only[Xah,Xaw]at hf;exact⟨id,m',C,I,rfl,hf.1,λj hj=>by simpa using hf.2 j hj⟩
   have J: ∀i l,reφ φ ids i=some l-> ∃id,ids[i]? =some id/\φ id=some l:=λi l h=>Zai h
   refine⟨reφ φ ids,⟨?_, ?_, ?_, ?_,hI.stable,hI.base,hI.laid⟩,ht.1,ht.2.1, ?_⟩;intro i l hl;obtain⟨id,C,I⟩:=J i l hl;have:=hI.live id l I;have bf:=(Xae.1 C).1;exact⟨this.1,this.2.1,by show i<H'.length;omega⟩;intro i l es z m hl ad;obtain⟨id,C,I⟩:=J i l hl;obtain⟨ae,m0,U,h4,h5,h6,h7⟩:=hm i _ ad;rw[C]at U;cases U;exact ZzD h5.symm h6 h7 λes z b e=>hI.row id l es z b I (by rw[h4,e]);intro i l es hl ad;obtain⟨id,C,I⟩:=J i l hl;obtain⟨ae,m0,U,h4,h5,h6,h7⟩:=hm i _ ad;rw[C]at U;cases U;obtain⟨aw,rfl,_⟩:=Zsn (φ:=φ) (w:=w) (S:=S) (l:=[]) h5.symm h6 h7;obtain⟨h8,aa,clock,h9,ak⟩:=hI.map id l aw I h4;obtain⟨bg,ax,ay⟩:=Zsn (φ:=φ) (w:=w) (S:=S) (l:=aa.toList) h5.symm h6 h7;cases ax;exact⟨h8,aa,clock,h9,ay ak.1,ak.2⟩;intro i i' l l' m m' az hl a1 a6 al ha an;obtain⟨id,C,I⟩:=J i l hl;obtain⟨ae,ao,a7⟩:=J i' l' a1;obtain⟨x,m0,U,h4,h5,_⟩:=hm i _ a6;obtain⟨x',a8,aq,ba,bb,_⟩:=hm i' _ al;rw[C]at U;cases U;rw[ao]at aq;cases aq;refine hI.apart id ae l l' m0 a8 ?_ I a7 h4 ba (by rw[h5,Zl7]at ha;exact ha) (by rw[bb,Zl7]at an;exact an);rintro rfl;have e1:=Xae.1 C;have e2:=Xae.1 ao;obtain⟨g1,g2⟩:=e1;obtain⟨ar,au⟩:=e2;rcases Nat.lt_or_gt_of_ne az with h9|h9;exact List.pairwise_iff_getElem.1 hn i i' g1 ar h9 (g2.trans au.symm);exact List.pairwise_iff_getElem.1 hn i' i ar g1 h9 (au.trans g2.symm);intro i p hp;rw[ZqY]at hp;cases hg:get tm i with|none=>simp[hg]at hp|some q=>simp only[hg,Xal,Xaf]at hp;subst hp;obtain⟨C,I⟩:=ht.2.2 i q hg;have ab:=Zvs hg;have bc:=Xaw.1 af _ ab;exact⟨C,ZmG (λj hj=>ai j (XaZ.2 ⟨_,ab,hj⟩)) bc I⟩
 cases R
def Ze2 {c:Cx} {k:Option (List Nat×Bool)} {s st:St} (hm:Zft k c s=some st) (C:Inv φ s.hp w S B) (I:TRel φ w S N s.tm a) (j:c.base<=s.hp.length):
 ∃φ',Inv φ' st.hp w S B/\TRel φ' w S N st.tm a/\c.base<=st.hp.length/\Evo c.base B φ S w φ' S w:=by unfold Zft at hm;split at hm;cases hm;exact⟨φ,C,I,j,Evo.refl _ _ _ _ _⟩;rename_i ks comp;cases comp with|true=>simp only[if_true]at hm;obtain⟨h0,hm⟩:=Zak hm;obtain⟨φ',J,R⟩:=ZhQ hm C (ZoN I ks);exact⟨φ',J,R,by omega,⟨λid l hid=>by omega,λb j=>⟨j,rfl⟩,λb _ U=>U,Below.refl _ _⟩⟩|false=>simp only[XaO,if_false,Xaf]at hm;subst hm;exact⟨φ,C,ZoN I ks,j,Evo.refl _ _ _ _ _⟩
end
variable [Laid]
def FrzM (m j:Mem):Prop:=j=m\/ ∃es z b,m= .row es z b/\j= .row es z false
section
variable {w w':World} {φ φc φ':Phi} {S Sc S':Nat->Prop} {B base:Nat} {Hs Hc:List Mem}
def Zu8 (U: ∀id l,φc id=some l->φ' (base+id)=some l) {p:PV} {v:Value} (hs:Zio p=true\/ ∀b,Sc b->S' b) (J:Zen p=true) (j:VRel φc w' Sc p v):VRel φ' w' S' (sh1 base p) v:=by
 cases p<;>simp only[Zen]at J<;>try (cases J;done)
 case ref id i n room=>
  simp only[sh1,VRel]at j|-
  obtain⟨l,a,c,C,I⟩:=j
  exact⟨l,a,c,U _ _ C,I⟩
 case ptr id i r=>
  simp only[sh1,VRel]at j|-
  obtain⟨l,C,I⟩:=j
  exact⟨l,U _ _ C,I⟩
 case map id=>
  simp only[sh1,VRel]at j|-
  obtain⟨l,C,I⟩:=j
  exact⟨l,U _ _ C,I⟩
 case lst es=>
  simp only[sh1,VRel]at j|-
  rcases hs with hs|hs
  ·simp only[Zio,XbS]at hs
   subst hs
   simp only[IRel]at j|-
   obtain⟨a,c,C,I,_⟩:=j
   exact⟨a,c,C,I, .inl trivial⟩
  ·exact IRel.mono (λb R=>⟨hs b R,rfl⟩) _ _ j
 case box cs r=>
  simp only[sh1,VRel]at j|-
  rcases hs with hs|hs
  ·simp[Zio]at hs
  ·exact IRel.mono (λb R=>⟨hs b R,rfl⟩) _ _ j
 case clp es=>
  simp only[sh1,VRel]at j|-
  rcases hs with hs|hs
  ·simp[Zio]at hs
  ·exact IRel.mono (λb R=>⟨hs b R,rfl⟩) _ _ j
 all_goals simpa only[sh1,VRel]using j
def ZjM (j: ∀id l,φc id=some l->φ' (base+id)=some l): ∀ {l:List PV} {vs:List Value},(∀p∈l,(Zio p=true\/ ∀b,Sc b->S' b)/\Zen p=true)->VL φc w' Sc l vs->VL φ' w' S' (l.map (sh1 base)) vs
 | [],_,_,h=>by simpa only[List.map_nil,VL]using h
 |p::ps,_,hp,h=>by simp only[VL]at h;obtain⟨v,r,C,I,J⟩:=h;have:=hp p Xai;simp only[XaX,VL];exact⟨v,r,C,Zu8 j this.1 this.2 I,ZjM j (λq R=>hp q (Xaj _ R)) J⟩
def Zsg (R: ∀id l,φc id=some l->φ' (base+id)=some l) {p:PV} {v:Value} (U:Zdv p=true\/ ∀b,Sc b->S' b) (j:ZbA p=true) (I:VRel φc w' Sc p v):VRel φ' w' S' (sh base p) v:=by
 cases p<;>simp only[ZbA]at j;case agg cs=>
  simp only[sh,VRel]at I|-
  obtain⟨arr,h1,h2,h3⟩:=I
  refine⟨arr,h1, ?_,ZjM R (λq C=>⟨U.imp (λh=>Xaw.1 h q C) id,Xaw.1 j q C⟩) h3⟩
  intro c hc
  obtain⟨q,C,rfl⟩:=XaU.1 hc
  have:=h2 q C
  cases q<;>first|rfl|(simp[ZcT]at this)
 case func f x y=>
  simp only[Xah,Xaw]at j
  simp only[sh,VRel]at I|-
  obtain⟨fs,cs,h1,h2,h3⟩:=I
  have J:(x.all Zio=true/\y.all Zio=true)\/ ∀b,Sc b->S' b:=U.imp (λh=>by simpa only[Zdv,Xah]using h) id
  exact⟨fs,cs,h1,ZjM R (λq C=>⟨J.imp (λh=>Xaw.1 h.1 q C) id,j.1 q C⟩) h2,ZjM R (λq C=>⟨J.imp (λh=>Xaw.1 h.2 q C) id,j.2 q C⟩) h3⟩
 case tup vs=>
  simp only[XbS]at j
  subst j
  simpa only[sh,sh1,VRel,VL]using I
 all_goals (simp only[sh];exact Zu8 R U rfl I)
def ZGP (p:PV):ZcT (sh base p)=ZcT p:=by cases p<;>rfl
def ZFm (j: ∀id l,φc id=some l->φ' (base+id)=some l): ∀ {l:List PV} {vs:List Value},(∀p∈l,(Zdv p=true\/ ∀b,Sc b->S' b)/\ZbA p=true)->VL φc w' Sc l vs->VL φ' w' S' (l.map (sh base)) vs
 | [],_,_,h=>by simpa only[List.map_nil,VL]using h
 |p::ps,_,hp,h=>by simp only[VL]at h;obtain⟨v,r,C,I,J⟩:=h;have:=hp p Xai;simp only[XaX,VL];exact⟨v,r,C,Zsg j this.1 this.2 I,ZFm j (λq R=>hp q (Xaj _ R)) J⟩
def ZEX (j: ∀id l,φc id=some l->φ' (base+id)=some l): ∀ {l:List PV} {b o:Nat},(∀p∈l,(Zdv p=true\/ ∀b,Sc b->S' b)/\ZbA p=true)->VC φc w' Sc l b o->VC φ' w' S' (l.map (sh base)) b o
 | [],_,_,_,_=>trivial
 |p::ps,b,o,C,h=>by obtain⟨⟨I,v,J,R⟩,U⟩:=h;have:=C p Xai;exact⟨⟨by rw[ZGP];exact I,v,J,Zsg j this.1 this.2 R⟩,ZEX j (λq hq=>C q (Xaj _ hq)) U⟩
def ZFT (j: ∀id l,φc id=some l->φ' (base+id)=some l): ∀ {l:List (List PV)} {b o:Nat},(∀c∈l,∀p∈c,(Zdv p=true\/ ∀b,Sc b->S' b)/\ZbA p=true)->VE φc w' Sc l b o->VE φ' w' S' (l.map λc=>c.map (sh base)) b o
 | [],_,_,_,_=>trivial
 |c::cs,b,o,C,h=>⟨ZEX j (C c Xai) h.1,by have:=ZFT j (λq I=>C q (Xaj _ I)) h.2;simpa using this⟩
def ZFP (j: ∀id l,φc id=some l->φ' (base+id)=some l): ∀ {l:List (PV×PV)} {es:List MapEntry},(∀x∈l,((Zdv x.1=true\/ ∀b,Sc b->S' b)/\ZbA x.1=true)/\((Zdv x.2=true\/ ∀b,Sc b->S' b)/\ZbA x.2=true))->VM φc w' Sc l es->VM φ' w' S' (l.map λx=>(sh base x.1,sh base x.2)) es
 | [],_,_,h=>h
 |(k,v)::r,es,C,h=>by obtain⟨e,I,J,R,U,h4⟩:=h;have:=C (k,v) Xai;exact⟨e,I,J,Zsg j this.1.1 this.1.2 R,Zsg j this.2.1 this.2.2 U,ZFP j (λq hq=>C q (Xaj _ hq)) h4⟩
def ZoT {ps:List PV} {us:List Value} (hI:Inv φ Hs w S B) (hb:Below w.heap.size w w') (R:Inv φc Hc w' Sc w.heap.size)
 (ao: ∀ (j:Nat) (m:Mem),(Hc.map (shM base))[j]? =some m-> ∃m',Hs[base+j]? =some m'/\FrzM m m'/\φ (base+j)=none) (aq:Hc.all ZAV=true)
 (ak:(Hc.all ZnQ=true/\ ∀y∈ps,Zdv y=true)\/ ∀b,b<w.heap.size->Sc b->S b) (a8:VL φc w' Sc ps us) (ar: ∀y∈ps,ZbA y=true):
 ∃φ' S',Inv φ' Hs w' S' B/\Evo Hs.length B φ S w φ' S' w'/\VL φ' w' S' (ps.map (sh base)) us/\ ∀i,¬ (base<=i/\i<base+Hc.length)->φ' i=φ i:=by
 let φ':Phi:=λi=>if base<=i/\i<base+Hc.length then φc (i-base)else φ i
 let S':Nat->Prop:=λb=>S b\/(w.heap.size<=b/\b<w'.heap.size/\(Sc b\/ ∃ (j:Nat) (l:Loc) (es:List (List PV)) (z:Nat),φc j=some l/\l.b=b/\Hs[base+j]? =some (.row es z false)))
 have au: ∀b,S' b->b<w'.heap.size:=λb h=>h.elim (λh=>Xa6 (hI.stable b h) hb.size) (λh=>h.2.1)
 obtain⟨ah,al⟩:=hI.ext (S':=S') hb (λb h=> .inl h) au (λb av h=>h.elim id (λh=>by omega));have ab: ∀ {i},base<=i/\i<base+Hc.length->φ' i=φc (i-base):=λ{i} h=>if_pos h
 have C: ∀ {i},¬ (base<=i/\i<base+Hc.length)->φ' i=φ i:=λ{i} h=>if_neg h
 have at_: ∀j,j<Hc.length-> ∃m m',Hc[j]? =some m/\Hs[base+j]? =some m'/\FrzM (shM base m) m'/\φ (base+j)=none:=by intro j hj;have U:Hc[j]? =some Hc[j]:=(by simp[hj]);obtain⟨m',h2,h3,h4⟩:=ao j (shM base Hc[j]) (by rw[XaC,U];rfl);exact⟨_,m',U,h2,h3,h4⟩
 have hk: ∀id l,φc id=some l->φ' (base+id)=some l:=by intro id l h;have:=(R.live id l h).2.2;rw[ab ⟨by omega,by omega⟩,show base+id-base=id from by omega];exact h
 have ae:(Hc.all ZnQ=true/\ ∀y∈ps,Zdv y=true)\/ ∀b,Sc b->S' b:=by rcases ak with h|h;exact .inl h;refine .inr λb an=> ?_;by_cases av:b<w.heap.size;exact .inl (h b av an);exact .inr ⟨by omega,R.stable b an, .inl an⟩
 have I: ∀ {m m':Mem},FrzM (shM base m) m'->m'.alive=m.alive:=by intro m m' h;rcases h with rfl|⟨es,z,b,U,rfl⟩;cases m<;>rfl;cases m<;>simp[shM]at U;rfl
 have free: ∀ {j l m},φc j=some l->Hc[j]? =some m->m.alive=true-> ¬Sc l.b->(∀es z,Hs[base+j]?≠some (.row es z false))-> ¬S' l.b:=by intro j l m hj hm ha ba bb hs;have bn:=R.live j l hj;rcases hs with hs|⟨_,_,hs|⟨j',l',es,z,U,h2,h3⟩⟩;have:=hI.stable _ hs;omega;exact ba hs;by_cases aw:j=j';subst aw;exact bb _ _ h3;obtain⟨m2,bc,h4,h5,h6,_⟩:=at_ j' (R.live j' l' U).2.2;rw[h3]at h5;cases h5;exact R.apart j j' l l' m m2 aw hj U hm h4 ha (by rw[<-I h6];rfl) h2.symm
 refine⟨φ',S',⟨?_, ?_, ?_, ?_,au,ah.base,ah.laid⟩,⟨?_,al.st,al.old,al.below⟩, ?_,λi hi=>C hi⟩;intro i l J;by_cases hi:base<=i/\i<base+Hc.length;rw[ab hi]at J;have U:=R.live _ l J;obtain⟨_,m',_,h2,_⟩:=at_ (i-base) (by omega);have h3:=(Xae.1 h2).1;have:=hI.base;exact⟨by omega,U.2.1,by omega⟩;rw[C hi]at J;exact ah.live i l J;intro i l es z m J hm;by_cases hi:base<=i/\i<base+Hc.length;rw[ab hi]at J;obtain⟨mc,m',U,h2,h3,_⟩:=at_ (i-base) (by omega);rw[show base+(i-base)=i from by omega,hm]at h2;cases h2;obtain⟨aa,m1,rfl,rfl,bf⟩: ∃aa m1,mc= .row aa z m1/\es=aa.map (λc=>c.map (sh base))/\(m=m1\/m=false):=by rcases h3 with h3|⟨es',z',b',h3,h4⟩;cases mc<;>simp[shM]at h3;obtain⟨rfl,rfl,rfl⟩:=h3;exact⟨_,_,rfl,rfl, .inl rfl⟩;cases mc<;>simp[shM]at h3;obtain⟨rfl,rfl,rfl⟩:=h3;cases h4;exact⟨_,_,rfl,rfl, .inr rfl⟩
 have hr:=R.row _ l aa z m1 J U;have ax:m=true->m1=true:=λh=>by rcases bf with h'|h'<;>simp_all
 have ay: ∀c∈aa,∀p∈c,(Zdv p=true\/ ∀b,Sc b->S' b)/\ZbA p=true:=by intro c hc p hp;have g1:=Xaw.1 aq _ (XaF U);simp only[ZAV,Xaw]at g1;refine⟨ae.imp (λh=> ?_) id,g1 c hc p hp⟩;have g2:=Xaw.1 h.1 _ (XaF U);simp only[ZnQ,Xaw]at g2;exact g2 c hc p hp
 obtain⟨cur,e,fz,g1,g2,g3⟩:=hr.blk;have az:=R.live _ l J;refine⟨hr.zs,by simpa using hr.top, ?_,ZFT hk ay hr.cells,⟨cur,e,fz,g1,g2,λh=>g3 (ax h)⟩, ?_, ?_⟩;intro c hc;obtain⟨c0,bg,rfl⟩:=XaU.1 hc;simpa using hr.wid c0 bg;intro ag;refine free J U rfl (hr.own (ax ag)) ?_;intro es' z' hh;rw[show base+(i-base)=i from by omega,hm]at hh;cases hh;cases ag;intro bh;subst bh;exact .inr ⟨az.1,az.2.1, .inr ⟨i-base,l,_,z,J,rfl,by rw[show base+(i-base)=i from by omega];exact hm⟩⟩;rw[C hi]at J;have hr:=ah.row i l es z m J hm;have af: ∀id l,φ id=some l->φ' id=some l:=by intro id l' h;by_cases hid:base<=id/\id<base+Hc.length;obtain⟨_,_,_,_,_,h4⟩:=at_ (id-base) (by omega);rw[show base+(id-base)=id from by omega,h]at h4;cases h4;rw[C hid];exact h
 exact⟨hr.zs,hr.top,hr.wid,VE.mono af (λb hb=>⟨hb,rfl⟩) _ _ _ rfl hr.cells,hr.blk,hr.own,hr.frz⟩;intro i l es J hm;by_cases hi:base<=i/\i<base+Hc.length;rw[ab hi]at J;obtain⟨mc,m',U,h2,h3,_⟩:=at_ (i-base) (by omega);rw[show base+(i-base)=i from by omega,hm]at h2;cases h2;obtain⟨aa,rfl,rfl⟩: ∃aa,mc= .map aa/\es=aa.map (λx=>(sh base x.1,sh base x.2)):=by rcases h3 with h3|⟨es',z',b',h3,h4⟩;cases mc<;>simp[shM]at h3;exact⟨_,rfl,h3⟩;cases h4
 obtain⟨g1,ai,clock,g2,g3⟩:=R.map _ l aa J U;refine⟨free J U rfl g1 ?_,ai,clock,g2,ZFP hk (λx hx=> ?_) g3.1,g3.2⟩;intro es' z' hh;rw[show base+(i-base)=i from by omega,hm]at hh;cases hh;have g4:=Xaw.1 aq _ (XaF U);simp only[ZAV,Xaw,Xah]at g4;have g5:(Zdv x.1=true/\Zdv x.2=true)\/ ∀b,Sc b->S' b:=ae.imp (λh=>by have g6:=Xaw.1 h.1 _ (XaF U);simp only[ZnQ,Xaw,Xah]at g6;exact g6 x hx) id
 exact⟨⟨g5.imp (·.1) id,(g4 x hx).1⟩,⟨g5.imp (·.2) id,(g4 x hx).2⟩⟩;rw[C hi]at J;obtain⟨g1,ai,clock,g2,g3⟩:=ah.map i l es J hm;have af: ∀id l,φ id=some l->φ' id=some l:=by intro id l' h;by_cases hid:base<=id/\id<base+Hc.length;obtain⟨_,_,_,_,_,h4⟩:=at_ (id-base) (by omega);rw[show base+(id-base)=id from by omega,h]at h4;cases h4;rw[C hid];exact h
 exact⟨g1,ai,clock,g2,VMc.mono af (λb hb=>⟨hb,rfl⟩) g3⟩;intro i i' l l' m m' bj J ad hm a1 ha a6;by_cases hi:base<=i/\i<base+Hc.length<;>by_cases aj:base<=i'/\i'<base+Hc.length;rw[ab hi]at J;rw[ab aj]at ad;obtain⟨mc,m2,U,h2,h3,_⟩:=at_ (i-base) (by omega);obtain⟨bk,bc,bl,a7,bm,_⟩:=at_ (i'-base) (by omega);rw[show base+(i-base)=i from by omega,hm]at h2;rw[show base+(i'-base)=i' from by omega,a1]at a7;cases h2;cases a7;exact R.apart _ _ l l' mc bk (by omega) J ad U bl (by rw[<-I h3];exact ha) (by rw[<-I bm];exact a6);rw[ab hi]at J;rw[C aj]at ad;have:=R.live _ l J;have:=hI.live _ l' ad;omega;rw[C hi]at J;rw[ab aj]at ad;have:=hI.live _ l J;have:=R.live _ l' ad;omega;rw[C hi]at J;rw[C aj]at ad;exact ah.apart i i' l l' m m' bj J ad hm a1 ha a6;intro id l _ h;by_cases hid:base<=id/\id<base+Hc.length;obtain⟨_,_,_,_,_,h4⟩:=at_ (id-base) (by omega);rw[show base+(id-base)=id from by omega,h]at h4;cases h4;rw[C hid];exact h;exact ZFm hk (λp hp=>⟨ae.imp (λh=>h.2 p hp) id,ar p hp⟩) a8
def ZCZ (Hs:List Mem) (φ:Phi) (base:Nat) (ms:List Mem):Prop:= ∀ (j:Nat) (m:Mem),ms[j]? =some m-> ∃C,Hs[base+j]? =some C/\FrzM m C/\φ (base+j)=none
def ZeO: ∀ (args:List PV) (i t:Nat) (p:PV),get (enterT i args) t=some p->i<=t/\args[t-i]? =some p
 | [],i,t,p,h=>by simp[enterT,Znk]at h
 |v::r,i,t,p,h=>by simp only[enterT]at h;rw[Zcu]at h;split at h;rename_i e;subst e;cases h;simp;obtain⟨C,j⟩:=ZeO r (i+1) t p h;refine⟨by omega, ?_⟩;rw[show t-i=(t-(i+1))+1 from by omega];simpa using j
def Zgb: ∀ (vs:List PV) (k i:Nat),get (enterT k vs) (k+i)=vs[i]?
 | [],k,i=>by simp[enterT,Znk]
 |v::r,k,i=>by simp only[enterT];rw[Zcu];cases i with|zero=>simp|succ i=>rw[if_neg (by omega),show k+(i+1)=k+1+i from by omega,Zgb r (k+1) i];simp
def ZbD: ∀ (vs:List PV) (k:Nat),(enterT k vs).map (·.2)=vs
 | [],_=>rfl
 |v::r,k=>by simp only[enterT,XaX,ZbD r (k+1)]
def ZpF {φ:Phi}: ∀ {l:List PV} {vs:List Value},l.length=vs.length->(∀ (i:Nat) (p:PV),l[i]? =some p->VRel φ w S p (vs.getD i undef))->VL φ w S l vs
 | [],vs,h,_=>by have:vs=[]:=(by cases vs<;>simp_all);simp only[VL];exact this
 |p::l,[],h,_=>by simp at h
 |p::l,v::vs,h,j=>by simp only[VL];exact⟨v,vs,rfl,by simpa using j 0 p rfl,ZpF (by simpa using h) λi q C=>by simpa using j (i+1) q (by simpa using C)⟩
def Zoq {tm:List (Nat×PV)} {H:List Mem} {st:St} (j:Zer tm H=some st): ∃ids,st.tm=tm.map λx=>(x.1,ren ids x.2):=by
 unfold Zer at j;simp only[]at j;split at j;generalize Zfb H 3 ((tm.flatMap λx=>Zb8 x.2).foldl Zb6 [])=ids at j;cases C:Za4 (λi=>(H[i]?).bind λm=>if okM m&&(ZmR m).all ids.contains then some (Zns ids m)else none) ids with|none=>rw[C]at j;cases j|some H'=>rw[C]at j;simp only[Xal,Xaf]at j;subst j;exact⟨ids,rfl⟩
 cases j
def Zpn {φ:Phi} {vs:List PV} {us:List Value} {H:List Mem} {st:St} (C:Zer (enterT 0 vs) H=some st) (hI:Inv φ H w S B) (I:VL φ w S vs us): ∃φ',Inv φ' st.hp w S B/\VL φ' w S (st.tm.map (·.2)) us:=by
 obtain⟨φ',h1,h2⟩:=ZhQ (N:=us.length) (a:={tmps:=us.toArray,defers:=[]}) C hI ⟨by simp,rfl,λi p hp=>by obtain⟨_,J⟩:=ZeO vs 0 i p hp;simp only[Nat.sub_zero]at J;obtain⟨u,R,h7⟩:=VL.get I J;have hi:=(Xae.1 R).1;refine⟨hi, ?_⟩;have:us.toArray.getD i undef=u:=(by simp[XbP,R]);rw[this];exact h7⟩;obtain⟨ids,j⟩:=Zoq C;refine⟨φ',h1,ZpF ?_ ?_⟩;rw[j,VL.length I];have:=congrArg List.length (ZbD vs 0);simpa using this;intro i p hp;have hg:get st.tm i=some p:=by rw[j,ZqY];have U:=Zgb vs 0 i;rw[Xak]at U;rw[U];have h4:(st.tm.map (·.2))[i]? =(vs[i]?).map (ren ids):=(by rw[j,XbE];have:(enterT 0 vs).map ((λx=>x.2)∘λx=>(x.1,ren ids x.2))=vs.map (ren ids):=(by rw[<-ZbD vs 0,XbE];simp[ZbD]);rw[this,XaC]);rw[<-h4];exact hp
 have:=(h2.2.2 i p hg).2;simpa[XbP]using this
def Zxu {φ:Phi} {v:PV} {u:Value} (C:VRel φ w S v u): ∃us,VL φ w S (Zbg v) us/\ ∀ (φ':Phi) (w':World) (S':Nat->Prop) (ps:List PV),VL φ' w' S' ps us->VRel φ' w' S' (Zhr v ps) u:=by
 have one:VL φ w S [v] [u]:=by simp only[VL];exact⟨u,[],rfl,C,rfl⟩
 have back: ∀ (φ':Phi) (w':World) (S':Nat->Prop) (ps:List PV),VL φ' w' S' ps [u]-> ∃q,ps=[q]/\VRel φ' w' S' q u:=by intro φ' w' S' ps h;cases ps with|nil=>simp[VL]at h|cons q r=>simp only[VL]at h;obtain⟨v1,r1,J,I,R⟩:=h;cases J;cases r with|nil=>exact⟨q,rfl,I⟩|cons x y=>simp[VL]at R
 cases v;case tup vs=>
  simp only[VRel]at C
  obtain⟨arr,rfl,I⟩:=C
  refine⟨arr.toList,I,λφ' w' S' ps j=> ?_⟩
  simp only[Zhr,VRel]
  exact⟨arr,rfl,j⟩
 all_goals exact⟨[u],one,λφ' w' S' ps j=>by obtain⟨q,rfl,U⟩:=back φ' w' S' ps j;exact U⟩
end
variable [Laid]
def conv:Ex->Exit
 | .normal=> .normal
 | .exit id=> .exit id
 | .ret=> .ret
def ZDD (H':List Mem) (k B:Nat) (φ:Phi) (S:Nat->Prop) (w:World) (v:PV) (e:Ending) (w':World):Prop:=
 ∃u φ' S',e= .returned u/\Inv φ' H' w' S' B/\Evo k B φ S w φ' S' w'/\VRel φ' w' S' v u
section
variable {P:Program} {h:Hints} {E:Ev}
def Zqu (P:Program) (E:Ev):Prop:= ∀f args H v H',E.rn f args H=some (v,H')-> ∀φ S w B vals,Inv φ H w S B->VL φ w S args vals->Calls P f vals.toArray w (ZDD H' H.length B φ S w v)
def ZbX (P:Program) (h:Hints):Prop:= ∀f g,h.prim f=some g-> ∀qs v,g qs=some v-> ∀ (S:Nat->Prop) w vals,(∀b,S b->b<w.heap.size)->Laid.ok S w->LRel w S qs vals->
 Calls P f vals.toArray w λe w'=> ∃u,e= .returned u/\Below w.heap.size w w'/\IRel w' (λb=>S b\/(w.heap.size<=b/\b<w'.heap.size)) v u
variable {w:World} {φ:Phi} {S:Nat->Prop} {B:Nat} {H:List Mem}
def Inv.empty (S:Nat->Prop) (w:World) (hS: ∀b,S b->b<w.heap.size) (C:Laid.ok S w):Inv (λ_=>none) [] w S w.heap.size where
 live:=by intro id l h;cases h
 row:=by intro id l es z m h;cases h
 map:=by intro id l es h;cases h
 apart:=by intro i j l I m J _ h;cases h
 stable:=hS
 base:=Xag _
 laid:=C
def ZfW {qs:List PV} {vals:List Value} (h:LRel w S qs vals):VL (λ_=>none) w S qs vals:=LRel.toV _ _ h
def ZjR (hE:Zqu P E) (hP:ZbX P h) (hI:Inv φ H w S B) {f:FuncId} {args:List PV} {vals:List Value} {q:PV} {ms:List Mem} {fz:List Nat} {base:Nat} (R:Zhv h E f args H base=some (q,ms,fz))
 (hv:VL φ w S args vals) (an:ZCZ H φ base ms) (ai: ∀id∈fz,∀l es z m,φ id=some l->H[id]? =some (.row es z m)->S l.b):
 Calls P f vals.toArray w (λe w'=> ∃u φ' S',e= .returned u/\Inv φ' H w' S' B/\Evo H.length B φ S w φ' S' w'/\VRel φ' w' S' q u/\ ∀i,¬ (base<=i/\i<base+ms.length)->φ' i=φ i):=by
 unfold Zhv at R;cases hq:Za4 (exp ZaP H) args with
 |none=>simp[hq]at R
 |some qs=>
  simp only[hq,Xaa]at R;have C: ∀b,Zdm S φ (args.flatMap (rch ZaP H)) b->b<w.heap.size:=by rintro b (U|⟨id,_,l,hl,rfl⟩);exact hI.stable b U;exact(hI.live id l hl).2.1
  have J:Laid.ok (Zdm S φ (args.flatMap (rch ZaP H))) w:=Laid.mono _ _ _ _ (λb U=>⟨.inl U,rfl⟩) hI.laid;have hL:=(ZdD (ZfX hI (args.flatMap (rch ZaP H)) ZaP) args qs vals hq hv (λ_ hid=>hid)).1;cases himp:h.imp f with
  |true=>
   rw[himp,cond_true]at R;unfold ZCu at R;cases j:Zdj E f qs base with
   |none=>simp[j]at R
   |some r=>
    obtain⟨v',au,sf⟩:=r;simp only[j,Xal,Xaf,Prod.mk.injEq]at R;obtain⟨rfl,rfl,rfl⟩:=R;unfold Zdj at j;obtain⟨⟨v,Hc⟩,hg,j⟩:=Zai j;obtain⟨st,ao,j⟩:=Zai j;obtain⟨aj,j⟩:=Zak j;simp only[Xaf,Prod.mk.injEq]at j;obtain⟨rfl,rfl,rfl⟩:=j;simp only[Xah]at aj;refine(hE f qs [] v Hc hg _ _ w w.heap.size vals (Inv.empty _ w C J) (ZfW hL)).mono ?_;rintro e w' ⟨u,φc,Sc,rfl,ab,ad,ak⟩;obtain⟨us,h1,h2⟩:=Zxu ak;obtain⟨av,h3,h4⟩:=Zpn ao ab h1;obtain⟨φ',S',h5,h6,h7,h8⟩:=ZoT (base:=base) hI ad.below h3 an aj.2 (by
     cases ag:((st.tm.all λy=>Zdv y.2)&&st.hp.all ZnQ)with
     |true=>simp only[Xah,Xaw]at ag;refine .inl ⟨Xaw.2 ag.2,λy hy=> ?_⟩;obtain⟨x,hx,rfl⟩:=XaU.1 hy;exact ag.1 x hx
     |false=>
      refine .inr λb aa U=> ?_;rw[ag,cond_false]at ai;rcases ad.old b aa U with hs|⟨id,hid,l,hl,rfl⟩;exact hs;obtain⟨x,_,hx⟩:=XaZ.1 hid;obtain⟨es,z,m,ae⟩:=Zc4 _ _ _ hx;exact ai id hid l es z m hl ae) h4 (λy hy=>by
      obtain⟨x,hx,rfl⟩:=XaU.1 hy;exact Xaw.1 aj.1 x hx)
    refine⟨u,φ',S',rfl,h5,h6,h2 φ' w' S' _ ?_,λi hi=>h8 i (by simpa using hi)⟩;rw[XbE]at h7;exact h7
  |false=>
  rw[himp,cond_false]at R;unfold ZqL at R;have main: ∀r,ZbT h E f qs=some r->
   Calls P f vals.toArray w (λe w'=> ∃u S2,e= .returned u/\Below w.heap.size w w'/\IRel w' S2 r u/\(∀b,S2 b->b<w'.heap.size/\(b<w.heap.size->Zdm S φ (args.flatMap (rch ZaP H)) b))):=by
   intro r j;unfold ZbT at j;cases hp:h.prim f with
   |some g=>
    simp only[hp]at j;cases hg:g qs with
    |none=>simp[hg]at j
    |some v=>
     simp only[hg,Xaa]at j;refine(hP f g hp qs v hg _ w vals C J hL).mono ?_;rintro e w' ⟨u,rfl,U,af⟩;have ah: ∀b,(Zdm S φ (args.flatMap (rch ZaP H)) b\/(w.heap.size<=b/\b<w'.heap.size))->b<w'.heap.size:=
      λb I=>I.elim (λh'=>Xa6 (C b h') U.size) (λh'=>h'.2)
     have:=(ZfX (Inv.empty _ w' ah (Laid.mono _ _ _ _ (λb I=>⟨.inl I,U.block b (C b I)⟩) J)) [] ZaP v r u j (IRel.toV _ _ af) (by intro id hid;have:=Ztw ZaP v id hid;simp at this)).1;refine⟨u,_,rfl,U,IRel.mono (λb I=>⟨I.elim id (by rintro⟨id,hid,_⟩;simp at hid),rfl⟩) _ _ this,λb I=>⟨ah b I,λaa=>I.elim id (λh'=>by omega)⟩⟩
   |none=>simp only[hp]at j;cases hg:E.rn f qs []with|none=>simp[hg]at j|some x=>obtain⟨v,Hc⟩:=x;simp only[hg,Xaa]at j;refine(hE f qs [] v Hc hg _ _ w w.heap.size vals (Inv.empty _ w C J) (ZfW hL)).mono ?_;rintro e w' ⟨u,φc,Sc,rfl,ab,ad,ak⟩;have hx:=(ZfX ab (rch ZaP Hc v) ZaP v r u j ak (λ_ hid=>hid)).1;refine⟨u,_,rfl,ad.below,hx, ?_⟩;rintro b (U|⟨id,_,l,hl,rfl⟩);exact⟨ab.stable b U,λaa=>ad.old b aa U⟩;have:=ab.live id l hl;exact⟨this.2.1,λaa=>by omega⟩
  cases j:ZbT h E f qs with|none=>simp[j]at R|some r=>simp only[j,Xaa]at R;by_cases hm:h.mem f=true;rw[if_pos hm]at R;cases R;refine(main _ j).mono ?_;rintro e w' ⟨u,S2,rfl,U,af,al⟩;obtain⟨h1,h2⟩:=hI.foreign U;refine⟨u,φ,_,rfl,h1,h2,IRel.toV _ _ (IRel.mono (λb I=>⟨?_,rfl⟩) _ _ af),λ_ _=>rfl⟩;obtain⟨aa,hold⟩:=al b I;by_cases aq:b<w.heap.size;rcases hold aq with hs|⟨id,hid,l,hl,rfl⟩;exact .inl hs;obtain⟨x,_,hx⟩:=XaZ.1 hid;obtain⟨es,z,m,ae⟩:=Zc4 _ _ _ hx;exact .inl (ai id hid l es z m hl ae);exact .inr ⟨by omega,aa⟩;rw[if_neg hm]at R;obtain⟨ar,R⟩:=Zak R;cases R;refine(main _ j).mono ?_;rintro e w' ⟨u,S2,rfl,U,af,al⟩;obtain⟨h1,h2⟩:=hI.foreign U;exact⟨u,φ,_,rfl,h1,h2,IRel.toV _ _ (ZuD ar af),λ_ _=>rfl⟩
variable {o:Oper} {a:Act} {K:Act->World->Prop} {Q:Exit->Act->World->Prop}
def Zza {s:Sem Value} {u:Value} {w':World} (h:s.run P w= .ok u w'):(do pure (Next.value (<-s)):Sem Next).run P w= .ok (.value u) w':=by simp[h]
def Zda {u:Value} {w':World} (h:(execOp a.eval o).run P w= .ok (.value u) w') (j:K (a.put o.dst u) w'):o.wp P a w K Q:=by unfold Oper.wp;rw[h];exact j
def ZgP {f:FuncId} {args:Array Value} (h:(execOp a.eval o).run P w= .ok (.enter f args) w) (j:Calls P f args w λe w'=> ∃u,e= .returned u/\K (a.put o.dst u) w'):o.wp P a w K Q:=by unfold Oper.wp;rw[h];rw[Oper.upon_enter];refine j.mono ?_;rintro e w' ⟨u,rfl,hu⟩;exact hu
def Zdx {x:Option PV} {v:PV} {ms:List Mem} {fz:List Nat} (h:val x=some (v,ms,fz)):x=some v/\ms=[]/\fz=[]:=by unfold val at h;cases x with|none=>simp at h|some y=>simp at h;obtain⟨rfl,rfl,rfl⟩:=h;exact⟨rfl,rfl,rfl⟩
def ZBi (P:Program) (f:FuncId):Prop:= ∃fn,P.funcs[f]? =some fn/\fn.body.isSome=true/\(fn.name== "runtime.NumGoroutine")=false
def ZfT {f:FuncId} (hf:ZBi P f) (args:Array Value):(callFunc f args).run P w= .ok (.enter f args) w:=by
 obtain⟨fn,j,J,C⟩:=hf;have I:fn.body.isNone=false:=by cases R:fn.body<;>simp_all
 simp only[callFunc,Sem.run_bind,run_program,Result.andThen_ok,j,C,I,XaO,if_false,Sem.run_pure]
end
variable [Laid]
structure Good (P:Program) (h:Hints) (E:Ev):Prop where
 rn:Zqu P E
 prim:ZbX P h
 len: ∀f args H v H',E.rn f args H=some (v,H')->H.length<=H'.length
 fnOk: ∀f,(∃args H r,E.rn f args H=some r)\/(h.prim f).isSome=true->ZBi P f
def simM:Mem->Mem->Prop
 | .row es z _, .row es' z' _=>es=es'/\z=z'
 | .map es, .map es'=>es=es'
 | .dead, .dead=>True
 |_,_=>False
def simM.refl (m:Mem):simM m m:=by cases m<;>simp[simM]
section
variable {P:Program} {h:Hints} {E:Ev} {w:World} {φ:Phi} {S:Nat->Prop} {B:Nat} {H:List Mem} {tm:List (Nat × PV)} {N:Nat} {o:Oper} {a:Act} {K:Act->World->Prop} {Q:Exit->Act->World->Prop}
def Zrf (hG:Good P h E) {f:FuncId} {qs:List PV} {q:PV} (j:ZbT h E f qs=some q):ZBi P f:=by unfold ZbT at j;cases hp:h.prim f with|some g=>exact hG.fnOk f (.inr (by simp[hp]))|none=>simp only[hp]at j;cases C:E.rn f qs []with|none=>simp[C]at j|some r=>exact hG.fnOk f (.inl ⟨_,_,_,C⟩)
def ZrV (hG:Good P h E) {f:FuncId} {args:List PV} {base:Nat} {r:PV×List Mem×List Nat} (j:Zhv h E f args H base=some r):ZBi P f:=by unfold Zhv at j;cases C:Za4 (exp ZaP H) args with|none=>simp[C]at j|some qs=>simp only[C,Xaa]at j;cases himp:h.imp f with|true=>(rw[himp,cond_true]at j;unfold ZCu Zdj at j;cases I:E.rn f qs []with|none=>simp[I]at j|some r=>exact hG.fnOk f (.inl ⟨_,_,_,I⟩))|false=>rw[himp,cond_false]at j;unfold ZqL at j;cases J:ZbT h E f qs with|none=>simp[J]at j|some q=>exact Zrf hG J
def Zpw: ∀ (l:List PV) (x p:PV) (vs:List Value) (v:Value),Zjq min2 l x=some p->VL φ w S l vs->VRel φ w S x v-> ∃u,(vs.foldlM Builtin.min2 v).run P w= .ok u w/\VRel φ w S p u
 | [],x,p,vs,v,h,C,I=>by simp[Zjq]at h;subst h;simp only[VL]at C;subst C;exact⟨v,rfl,I⟩
 |y::l,x,p,vs,v,h,C,I=>by simp only[Zjq]at h;cases j:min2 x y with|none=>simp[j]at h|some z=>simp only[j,Xaa]at h;simp only[VL]at C;obtain⟨u,r,rfl,hu,R⟩:=C;unfold min2 at j;split at j;rename_i k a k' b;obtain⟨U,J⟩:=Zak j;subst U;cases J;simp only[VRel]at I hu;subst I;subst hu;obtain⟨u,h2,h3⟩:=Zpw l _ p r (.int k (if b<a then b else a)) h R (ZbF _ _);exact⟨u,by simp[Builtin.min2,h2],h3⟩;cases j
def ZoC: ∀ (l:List PV) (x p:PV) (vs:List Value) (v:Value),Zjq max2 l x=some p->VL φ w S l vs->VRel φ w S x v-> ∃u,(vs.foldlM Builtin.max2 v).run P w= .ok u w/\VRel φ w S p u
 | [],x,p,vs,v,h,C,I=>by simp[Zjq]at h;subst h;simp only[VL]at C;subst C;exact⟨v,rfl,I⟩
 |y::l,x,p,vs,v,h,C,I=>by simp only[Zjq]at h;cases j:max2 x y with|none=>simp[j]at h|some z=>simp only[j,Xaa]at h;simp only[VL]at C;obtain⟨u,r,rfl,hu,R⟩:=C;unfold max2 at j;split at j;rename_i k a k' b;obtain⟨U,J⟩:=Zak j;subst U;cases J;simp only[VRel]at I hu;subst I;subst hu;obtain⟨u,h2,h3⟩:=ZoC l _ p r (.int k (if b>a then b else a)) h R (ZbF _ _);exact⟨u,by simp[Builtin.max2,h2],h3⟩;cases j
def Zlf (hI:Inv φ H w S B) {b:Builtin} {ts:Array TypeId} {ty:TypeId} {cs:Array Bool} {vs:List PV} {p:PV} {us:List Value} (j:ZbN P H b ts vs=some p) (C:VL φ w S vs us):
 ∃u,(builtin b ts ty cs us.toArray).run P w= .ok (.value u) w/\VRel φ w S p u:=by
 unfold ZbN at j;split at j;rename_i x;simp only[VL]at C;obtain⟨u,r,rfl,hu,rfl⟩:=C;cases R:ts[0]? with|none=>simp[R]at j|some t=>simp only[R,Xaa]at j;obtain⟨v,I,J⟩:=Zq6 (P:=P) (ts:=ts) (ty:=ty) hI R j hu;exact⟨v,by simp[builtin,I],J⟩
 rename_i x r;simp only[VL]at C;obtain⟨u,U,rfl,hu,hr⟩:=C;obtain⟨v,I,J⟩:=Zpw (P:=P) r x p U u j hr hu;exact⟨v,by simp[builtin,Builtin.min_,I],J⟩;rename_i x r;simp only[VL]at C;obtain⟨u,U,rfl,hu,hr⟩:=C;obtain⟨v,I,J⟩:=ZoC (P:=P) r x p U u j hr hu;exact⟨v,by simp[builtin,Builtin.max_,I],J⟩;cases j
def FrzM.sim {m j:Mem} (h:FrzM m j):simM m j:=by rcases h with rfl|⟨es,z,b,rfl,rfl⟩;exact simM.refl _;simp[simM]
def Zvn (hG:Good P h E) {Hs:List Mem} {base:Nat} {v:PV} {ms:List Mem} {fz:List Nat} (hI:Inv φ Hs w S B) (U:TRel φ w S N tm a) (C:opR P h E Hs base (ev tm) o=some (v,ms,fz)) (aj:ZCZ Hs φ base ms)
 (au: ∀id∈fz,∀l es z m,φ id=some l->Hs[id]? =some (.row es z m)->S l.b)
 (hK: ∀u w' φ' S',Inv φ' Hs w' S' B->Evo Hs.length B φ S w φ' S' w'->VRel φ' w' S' v u->(∀i,¬ (base<=i/\i<base+ms.length)->φ' i=φ i)->K (a.put o.dst u) w'):o.wp P a w K Q:=by
 have same: ∀ {u:Value},(execOp a.eval o).run P w= .ok (.value u) w->VRel φ w S v u->o.wp P a w K Q:=λhr hv=>
  Zda hr (hK _ w φ S hI (Evo.refl _ _ _ _ _) hv (λ_ _=>rfl))
 have rdv: ∀ {x:Option PV} {s:Sem Value},val x=some (v,ms,fz)->execOp a.eval o=(do pure (Next.value (<-s)):Sem Next)->(∀p,x=some p-> ∃u,s.run P w= .ok u w/\VRel φ w S p u)->o.wp P a w K Q:=by intro x s hx he hs;obtain⟨hx,_,_⟩:=Zdx hx;obtain⟨u,R,I⟩:=hs v hx;exact same (by rw[he];exact Zza R) I
 have newRow: ∀ {es:List (List PV)} {z:Nat} {cur:Array Value} {e:TypeId} {u:Value} {vs:List Value},ms=[Mem.row es z true]->(execOp a.eval o).run P w= .ok (.value u) (w.alloc (.cells cur e))->(∀c∈es,c.length=z)->VL φ w S es.flatten vs->
  (∀c∈es.flatten,ZcT c=true)->(∀ (j:Nat) (x:Value),vs[j]? =some x->cur[j]? =some x)->es.length*z<=cur.size->
  (∀φ' S',φ' base=some ⟨w.heap.size,0,z,cur.size⟩->VRel φ' (w.alloc (.cells cur e)) S' v u)->o.wp P a w K Q:=by
  intro es z cur e u vs hm hr hw hv R hc an ao;subst hm;obtain⟨m',ae,af,ab⟩:=aj 0 _ rfl;have aa:=af.sim;simp only[Nat.add_zero]at ae ab;cases m' with|row es' z' b=>simp only[simM]at aa;obtain⟨rfl,rfl⟩:=aa;obtain⟨φ',S',I,h3,h4,h5⟩:=hI.add (fz:=(0,0)) (Zj8 w _) ab ae (ZhD w _) hw hv R hc an (by intro j hj;simp);refine Zda hr (hK _ _ φ' S' I h3 (ao φ' S' h4) ?_);intro i hi;exact h5 i (by rintro rfl;exact hi ⟨Xag _,by simp⟩)|map _=>simp[simM]at aa|dead=>simp[simM]at aa
 unfold opR at C;cases J:o.op with
 |move x=>simp only[J]at C;obtain⟨hx,_,_⟩:=Zdx C;exact same (by simp[execOp,J]) (Zaw U hx)
 |assign x=>simp only[J]at C;obtain⟨hx,_,_⟩:=Zdx C;exact same (by simp[execOp,J]) (Zaw U hx)
 |pick c x y=>simp only[J]at C;obtain⟨hx,_,_⟩:=Zdx C;unfold Zuv at hx;obtain⟨t,R,I⟩:=Zai hx;(cases t<;>simp only[]at I<;>try (cases I;done));rename_i b;have hb:=Zaw U R;simp only[VRel]at hb;cases b;exact same (by simp[execOp,J,hb,asBool]) (Zaw U I);exact same (by simp[execOp,J,hb,asBool]) (Zaw U I)
 |alloc t=>simp only[J,Zo8]at C;cases hz:ZdO P t with|none=>simp[hz]at C|some cs=>simp only[hz,Xal,Xaf,Prod.mk.injEq]at C;obtain⟨rfl,rfl,rfl⟩:=C;obtain⟨i,zv,hi,ak,hv,R⟩:=Zcy (w:=w) (φ:=φ) (S:=S) hz;refine newRow rfl (u:= .pointer (some ⟨w.heap.size,0,none⟩)) (cur:=zv.cells) (e:=t) (vs:=zv.cells.toList) ?_ (by simp) (by simpa using hv) (by simpa using R) (by simp) (by have:=VL.length hv;simp at this|-;omega) ?_;simp[execOp,J,Instr.alloc,zeroValue,typeInfo,hi,ak,newVar,Go.newRow];intro φ' S' ab;simp only[VRel];exact⟨_,ab,by simp⟩
 |box t x=>simp only[J,ZE9]at C;cases hz:(ev tm x).bind Zjo with|none=>simp[hz]at C|some p=>simp only[hz,Xal,Xaf,Prod.mk.injEq]at C;obtain⟨rfl,rfl,rfl⟩:=C;obtain⟨hx,hn⟩:=Zf8 hz;obtain⟨hv,R⟩:=Zg7 (Zaw U hx) hn;refine newRow rfl (u:= .pointer (some ⟨w.heap.size,0,none⟩)) (cur:=(a.eval x).cells) (e:=t) (vs:=(a.eval x).cells.toList) ?_ (by simp) (by simpa using hv) (by simpa using R) (by simp) (by have:=VL.length hv;simp at this|-;omega) ?_;simp[execOp,J,Instr.box,newVar,Go.newRow];intro φ' S' ab;simp only[VRel];exact⟨_,ab,by simp⟩
 |build t parts=>simp only[J]at C;refine rdv C (by rw[execOp,J]) λp hp=> ?_;unfold Zl6 at hp;obtain⟨ps,R,I⟩:=Zai hp;exact ZmD I (by have:=Ze5 U R;simpa using this)
 |buildSlice t n parts=>simp only[J,Zcc]at C;obtain⟨ps,R,I⟩:=Zai C;cases hb:ZbK P t n ps with|none=>simp[hb]at I|some m=>simp only[hb,Xal,Xaf,Prod.mk.injEq]at I;obtain⟨rfl,rfl,rfl⟩:=I;obtain⟨es,z,arr,e,rfl,hr,hl,hv,av,hw⟩:=Zh9 (P:=P) (ps:=parts.map λ(i,x)=>(i,a.eval x)) hb (by have:=Ze5 U R;simpa using this);have ag:arr.size=n*z:=(by have:=VL.length hv;rw[Za0 es hw,hl]at this;simpa using this);refine newRow rfl (u:= .slice (some ⟨w.heap.size,0,none⟩) n n) (cur:=arr) (e:=e) (vs:=arr.toList) ?_ hw hv av (by simp) (by rw[hl,ag];exact Xag _) ?_;simp only[execOp,J];exact Zza hr;intro φ' S' ab;simp only[VRel];exact⟨_,_,n,ab,rfl,Xag _,Xag _, .inr ⟨by simp,by simp[ag]⟩⟩
 |load t x=>simp only[J]at C;refine rdv C (by rw[execOp,J]) λp hp=> ?_;obtain⟨q,R,I⟩:=Zai hp;exact ZiY hI I (Zaw U R)
 |nilCheck x=>simp only[J]at C;obtain⟨hx,_,_⟩:=Zdx C;unfold ZdT at hx;obtain⟨q,R,I⟩:=Zai hx;have hq:=Zaw U R;(cases q<;>simp only[]at I<;>try (cases I;done));cases I;simp only[VRel]at hq;obtain⟨l,hl,hq⟩:=hq;exact same (u:=a.eval x) (by simp[execOp,J,hq]) (by rw[hq];simp only[VRel];exact⟨l,hl,rfl⟩);cases I;have ad:=hq;simp only[VRel,IRel]at ad;obtain⟨b,oo,ad,_⟩:=ad;exact same (u:=a.eval x) (by simp[execOp,J,ad]) hq;cases I;have ad:=hq;simp only[VRel]at ad;obtain⟨fs,cs,ad,_⟩:=ad;exact same (u:=a.eval x) (by simp[execOp,J,ad]) hq
 |binOp op t x y yt=>simp only[J]at C;refine rdv (s:=(do eqGuard op t x y (a.eval x) (a.eval y);binOp op t (a.eval x) (a.eval y))) C (by rw[execOp,J]) λp hp=> ?_;unfold ZqE at hp;split at hp;rename_i r hr;cases hp;obtain⟨q,r,R,I,h3⟩:=Zp6 hr;exact Zrp h3 (Zaw U R) (Zaw U I);cases hx:ev tm x with|none=>rw[hx,Zwh]at hp;cases hp|some q=>rw[hx]at hp;exact Zt9 hp (Zaw U hx) λe=>by rw[e];rfl
 |makeInterface t x=>simp only[J]at C;refine rdv C (by rw[execOp,J]) λp hp=> ?_;obtain⟨q,R,I⟩:=Zai (show((ev tm x).bind λv=>Zhp P t (some v))=some p from hp);exact ZpH I (Zaw U R)
 |typeAssert x xt u ok=>simp only[J]at C;refine rdv C (by rw[execOp,J]) λp hp=> ?_;obtain⟨q,R,I⟩:=Zai (show((ev tm x).bind λv=>Zg9 P (some v) u ok)=some p from hp);exact ZmU I (Zaw U R)
 |unOp op t x=>simp only[J]at C;refine rdv C (by rw[execOp,J]) λp hp=> ?_;obtain⟨q,R,I⟩:=Zai hp;exact Zuk I (Zaw U R)
 |convert s d x=>simp only[J]at C;obtain⟨hx,rfl,rfl⟩:=Zdx C;obtain⟨q,R,I⟩:=Zai hx;obtain⟨u,w',S',h3,h4,h5,h6⟩:=Zps (P:=P) hI I (Zaw U R);exact Zda (by simp only[execOp,J];exact Zza h3) (hK _ w' φ S' h4 h5 h6 (λ_ _=>rfl))
 |makeFunc fn first ah=>simp only[J]at C;obtain⟨hx,_,_⟩:=Zdx C;unfold ZtZ at hx;split at hx;rename_i f;obtain⟨as,R,I⟩:=Zai hx;(cases h3:Za4 (ev tm) ah.toList with|none=>simp[h3]at I|some cs=>simp only[h3,Xal,Xaf]at I;subst I;refine same (u:= .func (.func f) (first.map a.eval) (ah.map a.eval)) (by simp[execOp,J,Instr.makeFunc]) ?_;simp only[VRel];exact⟨_,_,rfl,by simpa using Zcp U R,by simpa using Zcp U h3⟩);cases hx
 |makeMap t r=>simp only[J,Zed]at C;cases r with|some _=>simp at C|none=>simp only[]at C;cases hs:Zim P t with|none=>simp[hs]at C|some e=>simp only[hs,Xal,Xaf,Prod.mk.injEq]at C;obtain⟨rfl,rfl,rfl⟩:=C;obtain⟨m',ae,af,ab⟩:=aj 0 _ rfl;have aa:=af.sim;simp only[Nat.add_zero]at ae ab;cases m' with|map es'=>simp only[simM]at aa;subst aa;obtain⟨φ',S',I,h3,h4,h5⟩:=hI.addMap (Zj8 w (.map #[] 0)) ab ae (ZhD w _);refine Zda (u:= .map (some w.heap.size)) (w':=w.alloc (.map #[] 0)) (by simp[execOp,J,Instr.makeMap]) (hK _ _ φ' S' I h3 (by simp only[VRel];exact⟨_,h4,rfl⟩) ?_);intro i hi;exact h5 i (by rintro rfl;exact hi ⟨Xag _,by simp⟩)|row _ _ _=>simp[simM]at aa|dead=>simp[simM]at aa
 |makeSlice t l c=>
  simp only[J,Zc0]at C;obtain⟨lv,cv,R,I,h3⟩:=Zp6 C;cases hb:Zgk P t lv cv with
  |none=>simp[hb]at h3
  |some g=>
   simp only[hb,Xal,Xaf,Prod.mk.injEq]at h3;obtain⟨rfl,rfl,rfl⟩:=h3;unfold Zgk at hb;split at hb;rename_i k1 l' k2 c';have hl:=Zaw U R;have hc:=Zaw U I;simp only[VRel]at hl hc;cases he:ZjX P t with
    |none=>simp[he]at hb
    |some e=>
     have hu:=ZeP he;simp only[he,Xaa]at hb;obtain⟨z,h4,hb⟩:=Zai hb;obtain⟨by_,h5,hb⟩:=Zai hb;obtain⟨zero,h6,hb⟩:=Zai hb;obtain⟨⟨aw,ax,ay,a7,a8,aq⟩,hb⟩:=Zak hb;cases hb;obtain⟨i,zv,hi,ak,hv,az⟩:=Zcy (w:=w) (φ:=φ) (S:=S) h6;have ag:i.size=z:=(by unfold Zbe at h4;rw[hi]at h4;simpa using h4);have a1:i.bytes=by_:=(by unfold Zj4 at h5;rw[hi]at h5;simpa using h5);have a6:zv.cells.size=z:=(by have:=VL.length hv;simpa[aq]using this);have ai:=run_make (P:=P) w t e i zv hu hi ak k1 k2 l' c' aw ax (by rw[a1];exact ay) (by omega);rw[ag]at ai;have ar: ∀k,VL φ w S (List.replicate k zero).flatten (List.replicate k zv.cells.toList).flatten:=by intro k;induction k with|zero=>simp[VL]|succ k ih=>simp only[List.replicate_succ,XbW];exact VL.append hv ih
     have al:(madeCells zv.cells (c'.toNat*z)).toList=(List.replicate c'.toNat zv.cells.toList).flatten:=(by rw[<-a6];exact Zdk _ _);have hle:l'.toNat<=c'.toNat:=(by omega);refine newRow rfl (u:= .slice (some ⟨w.heap.size,0,none⟩) l'.toNat c'.toNat) (cur:=madeCells zv.cells (c'.toNat*z)) (e:=e) (vs:=(List.replicate c'.toNat zv.cells.toList).flatten) ?_ ?_ (ar _) ?_ ?_ ?_ ?_;simp only[execOp,J,hl,hc];exact Zza ai;intro x hx;rw[(List.mem_replicate.1 hx).2];exact aq;intro x hx;simp only[List.mem_flatten,List.mem_replicate]at hx;obtain⟨y,⟨_,rfl⟩,hx⟩:=hx;exact az x hx;intro j x hj;have:(madeCells zv.cells (c'.toNat*z)).toList[j]? =some x:=(by rw[al];exact hj);simpa using this;simp only[XaM,size_madeCells];exact Xag _;intro φ' S' ab;simp only[VRel];exact⟨_,_,c'.toNat,ab,rfl,hle,Xag _, .inr ⟨by simp,by simp[size_madeCells]⟩⟩
   cases hb
 |slice t x lo hi mx=>simp only[J]at C;refine rdv C (by rw[execOp,J]) λp hp=> ?_;unfold Zcg at hp;obtain⟨q,R,hp⟩:=Zai hp;obtain⟨l,I,hp⟩:=Zai hp;obtain⟨k,h3,hp⟩:=Zai hp;obtain⟨m,h4,hp⟩:=Zai hp;exact Zmu hI hp (Zaw U R) (ZiQ U I) (ZiQ U h3) (ZiQ U h4)
 |fieldAddr s x f=>simp only[J]at C;refine rdv C (by rw[execOp,J]) λp hp=> ?_;obtain⟨q,R,I⟩:=Zai hp;exact Zh6 I (Zaw U R)
 |field s x f=>simp only[J]at C;refine rdv C (by rw[execOp,J]) λp hp=> ?_;obtain⟨q,R,I⟩:=Zai hp;exact ZmJ I (Zaw U R)
 |indexAddr t x i=>simp only[J]at C;refine rdv C (by rw[execOp,J]) λp hp=> ?_;obtain⟨q,r,R,I,h3⟩:=Zp6 hp;exact ZiG hI h3 (Zaw U R) (Zaw U I)
 |index t x i=>simp only[J]at C;refine rdv C (by rw[execOp,J]) λp hp=> ?_;obtain⟨q,r,R,I,h3⟩:=Zp6 hp;exact ZnR h3 (Zaw U R) (Zaw U I)
 |lookup t x k ok=>simp only[J]at C;refine rdv C (by rw[execOp,J]) λp hp=> ?_;obtain⟨q,r,R,I,h3⟩:=Zp6 hp;exact Zlk hI h3 (Zaw U R) (Zaw U I)
 |extract x i=>simp only[J]at C;refine rdv C (by rw[execOp,J]) λp hp=> ?_;have hp':=hp;unfold Zel at hp';obtain⟨q,R,_⟩:=Zai hp';rw[R]at hp;exact ZnU hp (Zaw U R)
 |call c=>simp only[J,Zjb]at C;cases hc:c.callee with|builtin b=>simp only[hc]at C;obtain⟨hx,_,_⟩:=Zdx C;obtain⟨vs,R,I⟩:=Zai hx;obtain⟨u,h3,h4⟩:=Zlf (P:=P) (ty:=o.type) (cs:=c.args.map λ| .const _=>true|_=>false) hI I (Zcp U R);refine same (u:=u) ?_ h4;simp only[execOp,J,resolve,hc,Sem.run_bind,Sem.run_pure,Result.andThen_ok,invoke];rw[show c.args.map a.eval=(c.args.toList.map a.eval).toArray from by rw[<-Array.toList_map,Array.toArray_toList]];exact h3|value x=>(cases x with|func f=>simp only[hc,ZfM]at C;obtain⟨ba,C⟩:=Zkm C;obtain⟨vs,R,I⟩:=Zai C;have h3:=ZjR hG.rn hG.prim hI I (Zcp U R) aj au;refine ZgP (f:=f) (args:=(c.args.toList.map a.eval).toArray) ?_ (h3.mono ?_);simp only[execOp,J,resolve,hc,Act.eval,Deferred.ofValue,Sem.run_bind,Sem.run_pure,Result.andThen_ok,invoke];rw[ZfT (ZrV hG I),show c.args.map a.eval=(c.args.toList.map a.eval).toArray from by rw[<-Array.toList_map,Array.toArray_toList]];simp only[Array.empty_append,Array.append_empty];rintro e w' ⟨u,φ',S',rfl,h4,h5,h6,h7⟩;exact⟨u,rfl,hK u w' φ' S' h4 h5 h6 h7⟩|_=>simp[hc]at C)|invoke _ _=>simp[hc]at C
 |_=>simp[J]at C
end
variable [Laid]
section
variable {P:Program} {h:Hints} {E:Ev} {w:World} {φ:Phi} {S:Nat->Prop} {B:Nat} {H:List Mem}
def Zdy (b:Nat): ∀ (vs:List Value) (o:Nat) (w:World),(w.setCells b o vs).heap.size=w.heap.size
 | [],_,_=>rfl
 |v::r,o,w=>by rw[World.setCells,Zdy b r];simp
def Zcs (b:Nat): ∀ (vs:List Value) (o:Nat) (w:World),(w.setCells b o vs).os=w.os/\(w.setCells b o vs).tape=w.tape/\(w.setCells b o vs).output=w.output
 | [],_,_=>⟨rfl,rfl,rfl⟩
 |v::r,o,w=>by rw[World.setCells];exact Zcs b r (o+1) _
def ZbY (b:Nat): ∀ (vs:List Value) (o:Nat) (w:World) (k:Nat),k≠b->(w.setCells b o vs).heap[k]? =w.heap[k]?
 | [],_,_,_,_=>rfl
 |v::r,o,w,k,j=>by rw[World.setCells,ZbY b r (o+1) _ k j];exact Below.heap_setCell w ⟨b,o,none⟩ v k j
def Zex (b:Nat): ∀ (vs:List Value) (o:Nat) (w:World) (cur:Array Value) (e:TypeId) (fz:Nat×Nat),w.heap[b]? =some (.cells cur e fz)-> ∃j,(w.setCells b o vs).heap[b]? =some (.cells j e fz)/\j.size=cur.size
 | [],_,_,cur,_,_,h=>⟨cur,h,rfl⟩
 |v::r,o,w,cur,e,fz,h=>by rw[World.setCells];have C:(w.setCell ⟨b,o,none⟩ v).heap[b]? =some (.cells (cur.setIfInBounds o v) e fz):=(by simp[World.setCell,Array.getElem?_modify,h]);obtain⟨j,I,J⟩:=Zex b r (o+1) _ _ e fz C;exact⟨j,I,by simpa using J⟩
def VC.keep {φ':Phi} {b j:Nat} {vs:List Value} (hp: ∀id l,φ id=some l->φ' id=some l) (C: ∀k,S k->S k/\(w.setCells b j vs).heap[k]? =w.heap[k]?):
 ∀ (l:List PV) (o:Nat),(o+l.length<=j\/j+vs.length<=o)->VC φ w S l b o->VC φ' (w.setCells b j vs) S l b o
 | [],_,_,_=>trivial
 |p::ps,o,hd,h=>by obtain⟨⟨I,v,J,R⟩,U⟩:=h;simp only[Xaq]at hd;refine⟨⟨I,v, ?_,VRel.mono hp C p v R⟩,VC.keep hp C ps (o+1) (by omega) U⟩;rw[World.cell?_setCells_out b vs j w ⟨b,o,none⟩ (λ_ _=>by show o<j\/j+vs.length<=o;omega)];exact J
def VC.fresh {φ':Phi} {b o:Nat} {cs:List PV} {vs:List Value} (hp: ∀id l,φ id=some l->φ' id=some l) (J: ∀k,S k->S k/\(w.setCells b o vs).heap[k]? =w.heap[k]?) (C:VL φ w S cs vs) (R: ∀c∈cs,ZcT c=true)
 (U: ∀j,j<vs.length->(w.cell? ⟨b,o+j,none⟩).isSome=true):VC φ' (w.setCells b o vs) S cs b o:=by refine VC.of_vals (VL.mono hp J _ _ C) R λj v hj=> ?_;obtain⟨I,C⟩:=Xae.1 hj;rw[World.cell?_setCells_in b vs o w U j I,C]
def VC.spliced {φ':Phi} {b o k:Nat} {xs cs:List PV} {vs:List Value} (hp: ∀id l,φ id=some l->φ' id=some l) (C: ∀j,S j->S j/\(w.setCells b (o+k) vs).heap[j]? =w.heap[j]?) (I:VC φ w S xs b o) (J:VL φ w S cs vs) (R: ∀c∈cs,ZcT c=true)
 (hk:k+cs.length<=xs.length) (U: ∀j,j<vs.length->(w.cell? ⟨b,o+k+j,none⟩).isSome=true):VC φ' (w.setCells b (o+k) vs) S (splice xs k cs) b o:=by have hl:=VL.length J;unfold splice;refine VC.append (VC.keep hp C _ _ (.inl (by rw[Xay];omega)) (VC.take k I)) (VC.append ?_ ?_);rw[Xay,XaQ (by omega)];exact VC.fresh hp C J R U;rw[Xay,XaQ (by omega)];refine VC.keep hp C _ _ (.inr (by omega)) ?_;rw[XbA];exact VC.drop _ (by omega) I
def Inv.patch {w':World} {id:Nat} {l:Loc} {es':List (List PV)} {z:Nat} {φ':Phi} {H':List Mem} (hI:Inv φ H w S B) (hid:φ' id=some l) (C: ∀i,i≠id->φ' i=φ i) (ah:φ id=none\/φ id=some l)
 (hH:H'[id]? =some (.row es' z true)) (aa: ∀i l',i≠id->φ i=some l'->H'[i]? =H[i]?\/H'[i]? =some .dead) (hlen:H.length<=H'.length)
 (R:w'.os=w.os/\w'.tape=w.tape/\w'.output=w.output) (U:w'.heap.size=w.heap.size) (J: ∀b,b≠l.b->w'.heap[b]? =w.heap[b]?) (hS: ¬S l.b) (hB:B<=l.b) (al:l.b<w.heap.size)
 (ab: ∀j lj m,j≠id->φ j=some lj->H'[j]? =some m->m.alive=true->lj.b≠l.b) (ai:RowAt φ' w' S l es' z true):Inv φ' H' w' S B/\Evo H.length B φ S w φ' S w':=by
 have hp: ∀i x,φ i=some x->φ' i=some x:=by intro i x I;by_cases hi:i=id;subst hi;rcases ah with hn|hn;rw[hn]at I;cases I;rw[hn]at I;rw[hid];exact I;rw[C i hi];exact I
 have hs: ∀b,S b->S b/\w'.heap[b]? =w.heap[b]? :=λb hb=>⟨hb,J b (by rintro rfl;exact hS hb)⟩
 have aj:id<H'.length:=(Xae.1 hH).1;refine⟨⟨?_, ?_, ?_, ?_,λb hb=>by rw[U];exact hI.stable b hb,by rw[U];exact hI.base,Laid.mono _ _ _ _ hs hI.laid⟩,λi x _ h=>hp i x h,hs,λ_ _ I=>I,R.1,R.2.1,R.2.2,by rw[U];exact Xag _,λk hk=>J k (by omega)⟩;intro i x I;by_cases hi:i=id;subst hi;rw[hid]at I;cases I;exact⟨hB,by rw[U];exact al,aj⟩;rw[C i hi]at I;have:=hI.live i x I;exact⟨this.1,by rw[U];exact this.2.1,by omega⟩;intro i x es z' m I hm;by_cases hi:i=id;subst hi;rw[hid]at I;cases I;rw[hH]at hm;cases hm;exact ai;rw[C i hi]at I;rcases aa i x hi I with he|he;rw[he]at hm;have ae:=ab i x _ hi I (by rw[he];exact hm) rfl;exact(hI.row i x es z' m I hm).mono hp hs (J _ ae) (λy=>y);rw[he]at hm;cases hm;intro i x es I hm;by_cases hi:i=id;subst hi;rw[hH]at hm;cases hm;rw[C i hi]at I;rcases aa i x hi I with he|he;rw[he]at hm;have ae:=ab i x _ hi I (by rw[he];exact hm) rfl;obtain⟨h3,ak,clock,h4,h5⟩:=hI.map i x es I hm;exact⟨h3,ak,clock,by rw[J _ ae];exact h4,VMc.mono hp hs h5⟩;rw[he]at hm;cases hm;intro i j x y m m' af I hy hm ad ha ag;by_cases hi:i=id;subst hi;rw[hid]at I;cases I;rw[C j (λe=>af e.symm)]at hy;exact λe=>ab j y m' (λe=>af e.symm) hy ad ag e.symm;by_cases hj:j=id;subst hj;rw[hid]at hy;cases hy;rw[C i hi]at I;exact ab i x m hi I hm ha;rw[C i hi]at I;rw[C j hj]at hy;have e1:H[i]? =some m:=by rcases aa i x hi I with he|he;rw[<-he];exact hm;rw[he]at hm;cases hm;simp[Mem.alive]at ha
 have e2:H[j]? =some m':=by rcases aa j y hj hy with he|he;rw[<-he];exact ad;rw[he]at ad;cases ad;simp[Mem.alive]at ag
 exact hI.apart i j x y m m' af I hy e1 e2 ha ag
def Inv.reheap {H':List Mem} (J:Inv φ H w S B) (I: ∀i l',φ i=some l'->H'[i]? =H[i]?\/H'[i]? =some .dead) (hlen:H.length<=H'.length):Inv φ H' w S B where
 live:=λi x C=>by have:=J.live i x C;exact⟨this.1,this.2.1,by omega⟩
 row:=by intro i x es z m C hm;rcases I i x C with he|he;rw[he]at hm;exact J.row i x es z m C hm;rw[he]at hm;cases hm
 map:=by intro i x es C hm;rcases I i x C with he|he;rw[he]at hm;exact J.map i x es C hm;rw[he]at hm;cases hm
 apart:=by intro i j x y m m' aa C hy hm R ha U;have e1:H[i]? =some m:=(by rcases I i x C with he|he;rw[<-he];exact hm;rw[he]at hm;cases hm;simp[Mem.alive]at ha);have e2:H[j]? =some m':=(by rcases I j y hy with he|he;rw[<-he];exact R;rw[he]at R;cases R;simp[Mem.alive]at U);exact J.apart i j x y m m' aa C hy e1 e2 ha U
 stable:=J.stable
 base:=J.base
 laid:=J.laid
def ZeZ {l:Loc} {es:List (List PV)} {z:Nat} (j:RowAt φ w S l es z true) (k:Nat) (J:k<l.top):(w.cell? ⟨l.b,l.o+k,none⟩).isSome=true/\w.frozen? ⟨l.b,l.o+k,none⟩=false:=by obtain⟨cur,e,fz,C,R,I⟩:=j.blk;refine⟨?_,I rfl _ (by omega)⟩;simp only[World.cell?,C];simp[show l.o+k<cur.size from by omega]
def RowAt.set {φ':Phi} {l:Loc} {es es':List (List PV)} {z k:Nat} {cs:List PV} {vs:List Value} (C:RowAt φ w S l es z true) (hp: ∀id l,φ id=some l->φ' id=some l) (he:es'.flatten=splice es.flatten k cs) (hw: ∀x∈es',x.length=z) (hl:es'.length=es.length)
 (U:VL φ w S cs vs) (R: ∀c∈cs,ZcT c=true) (hk:k+cs.length<=es.flatten.length):RowAt φ' (w.setCells l.b (l.o+k) vs) S l es' z true where
 zs:=C.zs
 top:=by rw[hl];exact C.top
 wid:=hw
 cells:=by
  have hs: ∀j,S j->S j/\(w.setCells l.b (l.o+k) vs).heap[j]? =w.heap[j]? :=λj J=>⟨J,ZbY _ _ _ _ _ (by rintro rfl;exact C.own rfl J)⟩
  refine VE.of_flat ?_;rw[he];have ab:=Za0 es C.wid;have aa:=C.top;refine VC.spliced hp hs (VE.flat C.cells) U R hk λj J=> ?_;have:=VL.length U;rw[XbA];exact(ZeZ C (k+j) (by omega)).1
 blk:=by obtain⟨cur,e,fz,R,h2,h3⟩:=C.blk;obtain⟨I,h4,h5⟩:=Zex l.b vs (l.o+k) w cur e fz R;exact⟨I,e,fz,h4,by omega,λhm j J=>by rw[World.frozen?_setCells];exact h3 hm j (by omega)⟩
 own:=C.own
 frz:=λh=>by cases h
def ZnN {cs:List PV} {vs:List Value} (j:VL φ w S cs vs) (C: ∀c∈cs,ZcT c=true): ∀v∈vs,v.oneCell'=true:=by induction cs generalizing vs with|nil=>simp only[VL]at j;subst j;simp|cons c cs I=>simp only[VL]at j;obtain⟨v,r,rfl,J,R⟩:=j;intro x hx;rcases Xau.1 hx with rfl|hx;exact ZrE (C c Xai) J;exact I R (λy U=>C y (Xaj _ U)) x hx
def ZoP {α:Type} (A L:List α) (k:Nat) (X:List α):splice (A++L) (A.length+k) X=A++splice L k X:=by unfold splice;rw[List.take_length_add_append,XbA,List.drop_length_add_append,Xa2]
def Zrq {α:Type} (C D:List α) (r:Nat) (X:List α) (h:r+X.length<=C.length):splice (C++D) r X=splice C r X++D:=by unfold splice;rw[XbT (by omega),List.drop_append_of_le_length (by omega)];simp
def ZgB {z:Nat} {r:Nat} {X:List PV}: ∀ (es:List (List PV)) (i:Nat) (c:List PV),(∀x∈es,x.length=z)->es[i]? =some c->r+X.length<=c.length->(es.set i (splice c r X)).flatten=splice es.flatten (i*z+r) X
 | [],i,c,_,h,_=>by simp at h
 |e::es,0,c,j,h,C=>by simp at h;subst h;simp only[List.set_cons_zero,XbW,Nat.zero_mul,Xak];rw[Zrq _ _ _ _ C]
 |e::es,i+1,c,j,h,C=>by have he:e.length=z:=j e Xai;simp only[List.set_cons_succ,XbW];rw[ZgB es i c (λx I=>j x (Xaj _ I)) (by simpa using h) C];rw[show(i+1)*z+r=e.length+(i*z+r)from by rw[Xbv,he];omega,ZoP]
def Zjm {t:TypeId} {p v:PV} {H':List Mem} {ad x:Value} (R:Inv φ H w S B) (C:Zdc P H t p v=some H') (hp:VRel φ w S p ad) (hx:VRel φ w S v x) (hn: ∀vs,v≠ .tup vs):
 ∃w',(Instr.storeAt t ad x).run P w= .ok () w'/\Inv φ H' w' S B/\Evo H.length B φ S w φ S w':=by
 unfold Zdc at C;split at C;rename_i id i r;split at C;rename_i es z hm;obtain⟨c,hc,C⟩:=Zai C;obtain⟨n,ae,C⟩:=Zai C;obtain⟨⟨hlen,hle⟩,C⟩:=Zak C;cases C;simp only[VRel]at hp;obtain⟨l,J,rfl⟩:=hp;have I:=R.row id l es z true J hm;obtain⟨hv,ho⟩:=Zg7 hx hn;have af:=VL.length hv;have hi:i<es.length:=(Xae.1 hc).1;have ag:c.length=z:=I.wid c (XaF hc);have an:=Za0 es I.wid;have ao:i*z+z<=es.length*z:=by rw[<-Nat.succ_mul];exact Xbx _ hi
 have al:=I.top;have aa:r+(cellsOf v).length<=c.length:=by omega
 have ah:(es.set i (splice c r (cellsOf v))).flatten=splice es.flatten (i*z+r) (cellsOf v):=ZgB es i c I.wid hc aa;refine⟨w.setCells l.b (l.o+(i*z+r)) x.cells.toList, ?_, ?_⟩
 have ai:=run_storeCells_cells (P:=P) l.b (l.o+(i*z+r)) x.cells.toList 0 w
     (λj U=>by rw[show l.o+(i*z+r)+0+j=l.o+(i*z+r+j)from by omega];exact(ZeZ I _ (by omega)).1)
     (λj U=>by rw[show l.o+(i*z+r)+0+j=l.o+(i*z+r+j)from by omega];exact(ZeZ I _ (by omega)).2) (ZnN hv ho)
 have aj:x.cells.size=n:=by simpa[hlen]using af
 simp only[Instr.storeAt,Instr.sureAddr,Sem.run_bind,Sem.run_pure,Result.andThen_ok,storeVar,ZaO ae,aj,ne_eq,not_true_eq_false,if_false];rw[I.zs,XbA];exact ai
 refine R.patch (id:=id) (l:=l) (es':=es.set i (splice c r (cellsOf v))) (z:=z) J (λ_ _=>rfl) (.inr J) (by simp[(R.live id l J).2.2]) ?_ (by simp) (Zcs _ _ _ _) (Zdy _ _ _ _) (λb hb=>ZbY _ _ _ _ _ hb)
     (I.own rfl) (R.live id l J).1 (R.live id l J).2.1 ?_ (I.set (λ_ _ h=>h) ah ?_ (by simp) hv ho ?_)
 intro j l' U _;exact .inl (by rw[XaD (λe=>U e.symm)]);intro j lj m U ak ab ha;rw[XaD (λe=>U e.symm)]at ab;exact R.apart j id lj l m _ U ak J ab hm ha rfl;intro y hy;rcases Xa4 hy with hy|rfl;exact I.wid y hy;rw[Zhn _ _ _ (by omega)];exact ag;omega;cases C;cases C
end
end
end Go.Am
