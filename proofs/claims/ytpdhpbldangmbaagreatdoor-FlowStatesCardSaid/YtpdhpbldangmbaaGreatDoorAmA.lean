/- The evaluator of the model's code on plain values, with its soundness and its walking rules (part 1). -/
import Derived.Test.YtpdhpbldangmbaaGreatDoorAl
import Derived.Calls
import Derived.Below
import Derived.WalkKit
set_option linter.all false
def oM {p:Prop} (h:p:=by omega):p:=h
def dC {p:Prop} (h:p:=by decide):p:=h
def sM {p:Prop} (h:p:=by simp):p:=h
def kR {p:Prop} (h:p:=by kernel_rfl):p:=h
def dT {p:Prop} [Decidable p] (h:decide p=true):p:=of_decide_eq_true h
def dF {p:Prop} [Decidable p] (h:decide p=false): ¬p:=of_decide_eq_false h
def tO {p q:Prop} [Decidable p] (h:decide p=true) (k:p->q:=by intro h;omega):q:=k (of_decide_eq_true h)
def fO {p q:Prop} [Decidable p] (h:decide p=false) (k: ¬p->q:=by intro h;omega):q:=k (of_decide_eq_false h)
namespace Go.Am
noncomputable section
inductive Sc where
 |b (x:Bool)
 |i (k:IntKind) (n:Int)
 |s (x:ByteArray)
inductive PV where
 |bool (b:Bool)
 |int (k:IntKind) (n:Int)
 |str (s:ByteArray)
 |nilp|nils|nilf|nilm|nili
 |ifc (t:TypeId) (x:Sc)
 |ptr (id i r:Nat)
 |ref (id i n m:Nat)
 |map (id:Nat)
 |lst (es:List (List PV))
 |box (cs:List PV) (r:Nat)
 |func (f:FuncId) (first caps:List PV)
 |agg (cs:List PV)
 |tup (vs:List PV)
 deriving Inhabited
inductive Mem where
 |row (es:List (List PV)) (z:Nat) (m:Bool)
 |map (es:List (PV×PV))
 |dead
 deriving Inhabited
structure St where
 tm:List (Nat×PV)
 hp:List Mem
inductive Ex where
 |normal
 |exit (id:Nat)
 |ret
 deriving DecidableEq
structure Hints where
 ok:FuncId->Bool
 opn:FuncId->Bool
 mem:FuncId->Bool
 imp:FuncId->Bool
 keep:FuncId->Nat->Option (List Nat×Bool)
 keepB:FuncId->Nat->Option (List Nat×Bool)
 light:FuncId->Nat->List Nat
 perm:FuncId->Nat->List Nat
 frz:TypeId->Bool
 prim:FuncId->Option (List PV->Option PV)
structure Cx where
 fid:Nat
 base:Nat
 N:Nat
def get (tm:List (Nat×PV)) (i:Nat):Option PV:=
 List.rec none (λp _ j=>bif Nat.beq i p.1 then some p.2 else j) tm
def Za3 {α β:Type} (f:α->Option β) (l:List α):Option (List β):=
 List.rec (some []) (λa _ j=>(f a).bind λb=>j.bind λs=>some (b::s)) l
def Zg5:Value->Option PV
 | .bool b=>some (.bool b)
 | .int k n=>some (.int k n)
 | .string s=>some (.str s)
 | .pointer none=>some .nilp
 | .slice none 0 0=>some .nils
 | .nilFunc=>some .nilf
 | .map none=>some .nilm
 | .nilIface=>some .nili
 |_=>none
def ZrD:Value->Option PV
 | .agg cs=>(Za3 Zg5 cs.toList).map .agg
 |v=>Zg5 v
def Sc.pv:Sc->PV
 | .b x=> .bool x
 | .i k n=> .int k n
 | .s x=> .str x
def Sc.val:Sc->Value
 | .b x=> .bool x
 | .i k n=> .int k n
 | .s x=> .string x
def ZHR:PV->Option Sc
 | .bool x=>some (.b x)
 | .int k n=>some (.i k n)
 | .str x=>some (.s x)
 |_=>none
def ZlN:PV->Option Value
 | .bool b=>some (.bool b)
 | .int k n=>some (.int k n)
 | .str s=>some (.string s)
 | .nilp=>some (.pointer none)
 | .nils=>some (.slice none 0 0)
 | .nilf=>some .nilFunc
 | .nilm=>some (.map none)
 | .nili=>some .nilIface
 |_=>none
def cellsOf:PV->List PV
 | .agg cs=>cs
 |v=> [v]
def Zj3:PV->Option PV
 | .tup _=>none
 |v=>some v
def ev (tm:List (Nat×PV)):Operand->Option PV
 | .tmp t=>get tm t
 | .const v=>ZrD v
 | .func f=>some (.func f [] [])
 | .global _=>none
def Zbi (P:Program) (t:TypeId):Option Nat:=(P.info? t).map (·.size)
def ZlH (P:Program) (t:TypeId):Option Nat:=(P.info? t).map (·.bytes)
def ZAU (P:Program) (t:TypeId):Option Bool:=
 match P.underlying t with
 |some (.struct _)|some (.array _ _)=>some true
 |some _=>some false
 |none=>none
def Zmm (P:Program) (t:TypeId):Option TypeId:=
 match P.underlying t with
 |some (.slice e)=>some e
 |_=>none
def Zek (P:Program) (t:TypeId):Option (List PV):=
 match(P.info? t)with
 |some i=>match i.zero with
  |some v=>Za3 Zg5 v.cells.toList
  |none=>none
 |none=>none
def Zef (P:Program) (t:TypeId):Option PV:=
 match(P.info? t)with
 |some i=>match i.zero with
  |some v=>ZrD v
  |none=>none
 |none=>none
def Zed (P:Program) (t:TypeId) (cs:List PV) (off:Nat):Option PV:=
 match ZAU P t with
 |some true=>(Zbi P t).bind λn=>if off+n<=cs.length then some (.agg ((cs.drop off).take n))else none
 |some false=>cs[off]?
 |none=>none
def splice {α:Type} (l:List α) (off:Nat) (cs:List α):List α:=l.take off++(cs++l.drop (off+cs.length))
def ZiW {α:Type} (P:Program):Sem α->Option α
 | .pure a=>some a
 | .program k=>ZiW P (k P)
 |_=>none
def ZlA (op:BinOp) (k:IntKind) (a:Int) (k':IntKind) (b:Int):Option PV:=
 match op with
 | .shl=>if b<0 then none else some (.int k (k.wrap (a*2^(min b.toNat k.bits))))
 | .shr=>if b<0 then none else some (.int k (a.fdiv (2^(min b.toNat k.bits))))
 | .add=>if k=k' then some (.int k (k.wrap (a+b)))else none
 | .sub=>if k=k' then some (.int k (k.wrap (a-b)))else none
 | .mul=>if k=k' then some (.int k (k.wrap (a*b)))else none
 | .quo=>if k=k' then if b=0 then none else some (.int k (k.wrap (a.tdiv b)))else none
 | .rem=>if k=k' then if b=0 then none else some (.int k (a.tmod b))else none
 | .and=>if k=k' then some (.int k (k.wrap (BitVec.ofInt k.bits a&&&BitVec.ofInt k.bits b).toNat))else none
 | .or=>if k=k' then some (.int k (k.wrap (BitVec.ofInt k.bits a|||BitVec.ofInt k.bits b).toNat))else none
 | .xor=>if k=k' then some (.int k (k.wrap (BitVec.ofInt k.bits a^^^BitVec.ofInt k.bits b).toNat))else none
 | .andNot=>if k=k' then some (.int k (k.wrap (BitVec.ofInt k.bits a&&& ~~~ (BitVec.ofInt k.bits b)).toNat))else none
 | .eql=>if k=k' then some (.bool (a==b))else none
 | .neq=>if k=k' then some (.bool (a !=b))else none
 | .lss=>if k=k' then some (.bool (decide (a<b)))else none
 | .leq=>if k=k' then some (.bool (decide (a<=b)))else none
 | .gtr=>if k=k' then some (.bool (decide (a>b)))else none
 | .geq=>if k=k' then some (.bool (decide (a≥b)))else none
def Zp1 (op:BinOp) (a b:ByteArray):Option PV:=
 match op with
 | .add=>if a.size+b.size<=9223372036854775807 then some (.str (a++b))else none
 | .eql=>some (.bool (a.data.toList==b.data.toList))
 | .neq=>some (.bool (!(a.data.toList==b.data.toList)))
 | .lss=>some (.bool (Op.bytesLess a.data.toList b.data.toList))
 | .leq=>some (.bool (Op.bytesLess a.data.toList b.data.toList||a.data.toList==b.data.toList))
 | .gtr=>some (.bool (!(Op.bytesLess a.data.toList b.data.toList||a.data.toList==b.data.toList)))
 | .geq=>some (.bool (!Op.bytesLess a.data.toList b.data.toList))
 |_=>none
def ZoH (P:Program) (t:TypeId):Bool:=match P.underlying t with|some .bool=>true|_=>false
def ZrR (op:BinOp) (r:Bool):Option PV:=
 match op with
 | .eql=>some (.bool r)
 | .neq=>some (.bool (!r))
 |_=>none
def ZB0 (P:Program) (t:TypeId) (xs ys:List PV):Option Bool:=
 (Za3 ZlN xs).bind λa=>(Za3 ZlN ys).bind λb=>
  if P.eqGuardType P.depth t then none else ZiW P (Op.equal t (.agg a.toArray) (.agg b.toArray))
def Zjy (P:Program) (t:TypeId):Bool:=match P.underlying t with|some (.pointer _)=>true|_=>false
def Zdf (P:Program) (t:TypeId):Bool:=match P.underlying t with|some (.slice _)=>true|_=>false
def Ziz (P:Program) (op:BinOp) (t:TypeId) (x y:PV):Option PV:=
 match x,y with
 | .int k a, .int k' b=>ZlA op k a k' b
 | .str a, .str b=>Zp1 op a b
 | .bool a, .bool b=>if ZoH P t then ZrR op (a==b)else none
 | .agg xs, .agg ys=>(ZB0 P t xs ys).bind (ZrR op)
 | .nils, .nils=>if Zdf P t then ZrR op true else none
 | .ref _ _ _ _, .nils=>if Zdf P t then ZrR op false else none
 | .lst _, .nils=>if Zdf P t then ZrR op false else none
 | .nilp, .nilp=>if Zjy P t then ZrR op true else none
 | .ptr _ _ _, .nilp=>if Zjy P t then ZrR op false else none
 | .box _ _, .nilp=>if Zjy P t then ZrR op false else none
 |_,_=>none
def ZKk (op:UnOp) (x:PV):Option PV:=
 match op,x with
 | .neg, .int k n=>some (.int k (k.wrap (0-n)))
 | .not, .bool b=>some (.bool (!b))
 | .xor, .int k n=>some (.int k (k.wrap (BitVec.ofInt k.bits (if k.signed then-1 else k.max)^^^BitVec.ofInt k.bits n).toNat))
 |_,_=>none
def byteCells (s:ByteArray):List (List PV):=s.data.toList.map λb=> [.int .u8 b.toNat]
def bytesOf:List (List PV)->Option (List UInt8)
 | []=>some []
 | [.int .u8 n]::r=>(bytesOf r).map (UInt8.ofNat n.toNat:: ·)
 |_=>none
def elems (H:List Mem):PV->Option (List (List PV))
 | .nils=>some []
 | .lst es=>some es
 | .ref id i n _=>match H[id]? with
  |some (.row es _ _)=>if i+n<=es.length then some ((es.drop i).take n)else none
  |_=>none
 |_=>none
def Zdx (P:Program) (H:List Mem) (src dst:TypeId) (x:PV):Option PV:=
 match P.underlying src,P.underlying dst,x with
 |some _,some (.int k), .int _ n=>some (.int k (k.wrap n))
 |some _,some .string, .str s=>some (.str s)
 |some _,some .string, .int _ n=>if 0<=n/\n<128 then some (.str ⟨#[UInt8.ofNat n.toNat]⟩)else none
 |some .string,some (.slice e), .str s=>match P.underlying e with
  |some (.int .u8)=>some (.lst (byteCells s))
  |_=>none
 |some (.slice e),some .string,x=>match P.underlying e with
  |some (.int .u8)=>(elems H x).bind λes=>(bytesOf es).map λl=> .str ⟨l.toArray⟩
  |_=>none
 |_,_,_=>none
def Zge (es:List (List PV)) (z:Nat):Bool:=match es with| []=>true|c::_=>c.length==z
def bHi (n:Nat) (hi:Option PV):Option Nat:=
 match hi with
 |none=>some n
 |some (.int _ h)=>if 0<=h/\h<=n then some h.toNat else none
 |some _=>none
def bLo (h:Nat) (lo:Option PV):Option Nat:=
 match lo with
 |none=>some 0
 |some (.int _ l)=>if 0<=l/\l<=h then some l.toNat else none
 |some _=>none
def Zgr (n:Nat) (lo hi:Option PV):Option (Nat×Nat):=
 (bHi n hi).bind λh=>(bLo h lo).bind λl=>some (l,h)
def ZEP (n m:Nat) (hi:Option PV):Option Nat:=
 match hi with
 |none=>some n
 |some (.int _ h)=>if 0<=h/\h<=m then some h.toNat else none
 |some _=>none
def bMx (h m:Nat) (j:Option PV):Option Nat:=
 match j with
 |none=>some m
 |some (.int _ x)=>if h<=x/\x<=m then some x.toNat else none
 |some _=>none
def ZcR (n m:Nat) (lo hi j:Option PV):Option (Nat×Nat×Nat):=
 if j.isSome&&hi.isNone then none else
 (ZEP n m hi).bind λh=>(bLo h lo).bind λl=>(bMx h m j).bind λx=>some (l,h,x)
def ZcE (P:Program) (H:List Mem) (t:TypeId) (x:PV) (lo hi j:Option PV):Option PV:=
 match P.underlying t,x with
 |some .string, .str s=>match j with
  |none=>(Zgr s.size lo hi).map λ(l,h)=> .str (s.extract l h)
  |some _=>none
 |some (.slice e), .lst es=>(Zbi P e).bind λz=>(ZcR es.length es.length lo hi j).bind λ(l,h,_)=>
  if Zge es z then some (.lst ((es.take h).drop l))else none
 |some (.slice e), .ref id i n m=>(Zbi P e).bind λz=>(ZcR n m lo hi j).bind λ(l,h,x)=>
  match H[id]? with
  |some (.row _ z' _)=>if z'=z then some (.ref id (i+l) (h-l) (x-l))else none
  |_=>none
 |some (.slice e), .nils=>(Zbi P e).bind λ_=>(ZcR 0 0 lo hi j).map λ_=> .nils
 |_,_=>none
def fieldAt (P:Program) (s:TypeId) (f:Nat):Option (Nat×TypeId):=
 match P.underlying s with
 |some (.struct j)=>(j[f]?).map λx=>(x.offset,x.type)
 |_=>none
def Zc6 (P:Program) (s:TypeId) (x:PV) (f:Nat):Option PV:=
 (fieldAt P s f).bind λ(off,j)=>
  match Zbi P j with
  |some 0=>none
  |some _=>match x with
   | .ptr id i r=>some (.ptr id i (r+off))
   | .box cs r=>some (.box cs (r+off))
   |_=>none
  |none=>none
def ZnV (P:Program) (s:TypeId) (x:PV) (f:Nat):Option PV:=
 (fieldAt P s f).bind λ(off,j)=>match x with
  | .agg cs=>Zed P j cs off
  |_=>none
def Zar (P:Program) (H:List Mem) (t:TypeId) (x C:PV):Option PV:=
 match C with
 | .int _ j=>
  match P.underlying t,x with
  |some (.slice e), .lst es=>(Zbi P e).bind λz=>
   if 0<=j/\j<es.length then(es[j.toNat]?).bind λc=>if c.length=z then some (.box c 0)else none else none
  |some (.slice e), .ref id i n _=>(Zbi P e).bind λz=>
   if 0<=j/\j<n then
    match H[id]? with
    |some (.row _ z' _)=>if z'=z then some (.ptr id (i+j.toNat) 0)else none
    |_=>none
   else none
  |some (.array n e), .ptr id i r=>(Zbi P e).bind λz=>if 0<=j/\j<n then some (.ptr id i (r+j.toNat*z))else none
  |some (.array n e), .box cs r=>(Zbi P e).bind λz=>if 0<=j/\j<n then some (.box cs (r+j.toNat*z))else none
  |_,_=>none
 |_=>none
def ZiM (P:Program) (t:TypeId) (x C:PV):Option PV:=
 match C with
 | .int _ j=>
  match P.underlying t,x with
  |some (.array n e), .agg cs=>(Zbi P e).bind λz=>if 0<=j/\j<n then Zed P e cs (j.toNat*z)else none
  |some .string, .str s=>if 0<=j then(s.data.toList[j.toNat]?).map λb=> .int .u8 b.toNat else none
  |_,_=>none
 |_=>none
def Zcf (P:Program) (H:List Mem) (t:TypeId) (x:PV):Option PV:=
 match x with
 | .ptr id i r=>match H[id]? with
  |some (.row es _ _)=>(es[i]?).bind λc=>Zed P t c r
  |_=>none
 | .box c r=>Zed P t c r
 |_=>none
def ZeW (P:Program) (H:List Mem) (t:TypeId) (x:PV):Option PV:=
 match P.underlying t,x with
 |some .string, .str s=>some (.int .i64 s.size)
 |some (.array n _),_=>some (.int .i64 n)
 |some (.slice _), .nils=>some (.int .i64 0)
 |some (.slice _), .lst es=>some (.int .i64 es.length)
 |some (.slice _), .ref _ _ n _=>some (.int .i64 n)
 |some (.map _ _), .nilm=>some (.int .i64 0)
 |some (.map _ _), .map id=>match H[id]? with
  |some (.map es)=>some (.int .i64 es.length)
  |_=>none
 |_,_=>none
def min2 (x y:PV):Option PV:=match x,y with
 | .int k a, .int k' b=>if k=k' then some (.int k (if b<a then b else a))else none
 |_,_=>none
def max2 (x y:PV):Option PV:=match x,y with
 | .int k a, .int k' b=>if k=k' then some (.int k (if b>a then b else a))else none
 |_,_=>none
def Zj7 (f:PV->PV->Option PV):List PV->PV->Option PV
 | [],a=>some a
 |b::r,a=>(f a b).bind (Zj7 f r)
inductive Ky where
 |s (b:ByteArray)
 |i (k:IntKind) (n:Int)
def keyOf:PV->Option Ky
 | .str s=>some (.s s)
 | .int k n=>some (.i k n)
 |_=>none
def Ky.pv:Ky->PV
 | .s b=> .str b
 | .i k n=> .int k n
def ZEX:Ky->PV->Option Bool
 | .s b, .str s=>some (b.data.toList==s.data.toList)
 | .i k n, .int k' m=>if k=k' then some (n==m)else none
 |_,_=>none
def Zgs:Ky->TypeDesc->Bool
 | .s _, .string=>true
 | .i _ _, .int _=>true
 |_,_=>false
def ZdX (k:Ky):List (PV×PV)->Option (Option PV)
 | []=>some none
 |(q,v)::r=>(ZEX k q).bind λb=>bif b then some (some v)else ZdX k r
def Zdy (k:Ky) (v:PV):List (PV×PV)->Option (List (PV×PV))
 | []=>some [(k.pv,v)]
 |(q,u)::r=>(ZEX k q).bind λb=>bif b then some ((k.pv,v)::r)else(Zdy k v r).map ((q,u):: ·)
def Zjs (P:Program) (t:TypeId):Option (TypeDesc×TypeId):=
 match P.underlying t with
 |some (.map k e)=>match P.underlying k with
  |some .string=>some (.string,e)
  |some (.int i)=>some (.int i,e)
  |_=>none
 |_=>none
def Zo5 (H:List Mem):PV->Option (List (PV×PV))
 | .nilm=>some []
 | .map id=>match H[id]? with
  |some (.map es)=>some es
  |_=>none
 |_=>none
def Zd3 (P:Program) (H:List Mem) (t:TypeId) (x k:PV) (ok:Bool):Option PV:=
 (Zjs P t).bind λe=>(keyOf k).bind λkey=>bif Zgs key e.1 then(Zo5 H x).bind λes=>(ZdX key es).bind λr=>(Zef P e.2).bind λzero=>
 some (if ok then .tup [r.getD zero, .bool r.isSome]else r.getD zero)else none
def Zdt (place:Nat->Option (Nat×Nat)):List PV->List (Nat×PV)->Option (List PV)
 |cs,[]=>some cs
 |cs,(i,v)::r=>(place i).bind λ(off,n)=>
  if(cellsOf v).length=n/\off+n<=cs.length then Zdt place (splice cs off (cellsOf v)) r else none
def ZdO (z:Nat):List (List PV)->List (Nat×PV)->Option (List (List PV))
 |es,[]=>some es
 |es,(i,v)::r=>if(cellsOf v).length=z/\i<es.length then ZdO z (es.set i (cellsOf v)) r else none
def Zhj (ρ:Operand->Option PV) (parts:Array (Nat×Operand)):Option (List (Nat×PV)):=
 Za3 (λx=>((ρ x.2).bind Zj3).map λv=>(x.1,v)) parts.toList
def Zju (P:Program) (t:TypeId) (parts:List (Nat×PV)):Option PV:=
 (Zek P t).bind λzero=>
 match P.underlying t with
 |some (.struct j)=>(Zdt (λi=>(j[i]?).bind λf=>(Zbi P f.type).map λn=>(f.offset,n)) zero parts).bind λcs=>
  (Za3 (λf=>Zbi P f.type) j.toList).map λ_=> .agg cs
 |some (.array _ e)=>(Zbi P e).bind λn=>(Zdt (λi=>some (i*n,n)) zero parts).map .agg
 |_=>none
def ZbM (P:Program) (t:TypeId) (len:Nat) (parts:List (Nat×PV)):Option Mem:=
 (Zmm P t).bind λe=>(Zbi P e).bind λz=>(Zek P e).bind λzero=>
  if(0<len\/parts=[])/\0<z/\zero.length=z/\len*z<=16777216 then(ZdO z (List.replicate len zero) parts).map λes=> .row es z true else none
def ZgO (P:Program) (t:TypeId) (len cap:PV):Option (Mem×Nat×Nat):=
 match len,cap with
 | .int _ l, .int _ c=>(Zmm P t).bind λe=>(Zbi P e).bind λz=>(ZlH P e).bind λby_=>(Zek P e).bind λzero=>
  if 0<=l/\l<=c/\by_*c<=281474976710656/\c<9223372036854775808/\0<z/\zero.length=z then
   some (.row (List.replicate c.toNat zero) z true,l.toNat,c.toNat)else none
 |_,_=>none
def ZaZ:Nat:=40
def exp:Nat->List Mem->PV->Option PV
 |0,_,_=>none
 |n+1,H,v=>match v with
  | .ref id i l _=>match H[id]? with
   |some (.row es _ _)=>if i+l<=es.length then(Za3 (Za3 (exp n H)) ((es.drop i).take l)).map .lst else none
   |_=>none
  | .ptr id i r=>match H[id]? with
   |some (.row es _ _)=>(es[i]?).bind λc=>(Za3 (exp n H) c).map λq=> .box q r
   |_=>none
  | .map _=>none
  | .func f a c=>(Za3 (exp n H) a).bind λj=>(Za3 (exp n H) c).map λC=> .func f j C
  | .agg cs=>(Za3 (exp n H) cs).map .agg
  | .tup vs=>(Za3 (exp n H) vs).map .tup
  |v=>some v
def rch:Nat->List Mem->PV->List Nat
 |0,_,_=> []
 |n+1,H,v=>match v with
  | .ref id i l _=>match H[id]? with
   |some (.row es _ _)=>id::((es.drop i).take l).flatMap λc=>c.flatMap (rch n H)
   |_=> []
  | .ptr id i _=>match H[id]? with
   |some (.row es _ _)=>id::((es[i]?).getD []).flatMap (rch n H)
   |_=> []
  | .func _ a c=>a.flatMap (rch n H)++c.flatMap (rch n H)
  | .agg cs=>cs.flatMap (rch n H)
  | .tup vs=>vs.flatMap (rch n H)
  |_=> []
def freeze1 (H:List Mem) (id:Nat):List Mem:=
 match H[id]? with
 |some (.row es z _)=>H.set id (.row es z false)
 |_=>H
def freeze (ids:List Nat) (H:List Mem):List Mem:=ids.foldl freeze1 H
def Zji:PV->Bool
 | .bool _| .int _ _| .str _| .nilp| .nils| .nilf| .nilm| .nili| .ifc _ _=>true
 | .lst es=>es.isEmpty
 | .agg cs=>cs.all λc=>match c with| .bool _| .int _ _| .str _| .nilp| .nils| .nilf| .nilm| .nili| .ifc _ _=>true| .lst es=>es.isEmpty|_=>false
 | .tup vs=>vs.all λc=>match c with
  | .bool _| .int _ _| .str _| .nilp| .nils| .nilf| .nilm| .nili| .ifc _ _=>true
  | .lst es=>es.isEmpty
  | .agg cs=>cs.all λc=>match c with| .bool _| .int _ _| .str _| .nilp| .nils| .nilf| .nilm| .nili| .ifc _ _=>true| .lst es=>es.isEmpty|_=>false
  |_=>false
 |_=>false
def Zpk (tm:List (Nat×PV)):List Nat->List (Nat×PV)
 | []=> []
 |k::r=>match get tm k with
  |some v=>(k,v)::Zpk tm r
  |none=>Zpk tm r
def ZhW:PV->Bool
 | .ref _ _ _ _| .ptr _ _ _| .map _=>false
 | .func _ a c=>a.isEmpty&&c.isEmpty
 | .agg cs=>cs.all λc=>match c with| .ref _ _ _ _| .ptr _ _ _| .map _| .agg _| .tup _| .func _ _ _=>false|_=>true
 | .tup vs=>vs.isEmpty
 |_=>true
def Zmf:Mem->Bool
 | .row es _ _=>es.all λc=>c.all ZhW
 | .map es=>es.all λ(k,v)=>ZhW k&&ZhW v
 | .dead=>false
def Zf4:PV->List Nat
 | .ref id _ _ _| .ptr id _ _| .map id=> [id]
 |_=> []
def ZcP:PV->List Nat
 | .agg cs=>cs.flatMap Zf4
 | .func _ a c=>a.flatMap Zf4++c.flatMap Zf4
 |v=>Zf4 v
def Zg7:PV->Bool
 | .agg _| .tup _| .func _ _ _=>false
 |_=>true
def Zb1:PV->Bool
 | .agg cs=>cs.all Zg7
 | .func _ a c=>a.all Zg7&&c.all Zg7
 | .tup vs=>vs.isEmpty
 |_=>true
def Zcl (l:List Nat) (i:Nat):List Nat:=if l.contains i then l else l++ [i]
def pos (i:Nat):List Nat->Nat
 | []=>0
 |j::r=>bif Nat.beq i j then 0 else pos i r+1
def Zvq (l:List Nat):PV->PV
 | .ref id i n m=> .ref (pos id l) i n m
 | .ptr id i r=> .ptr (pos id l) i r
 | .map id=> .map (pos id l)
 |v=>v
def ren (l:List Nat):PV->PV
 | .agg cs=> .agg (cs.map (Zvq l))
 | .func f a c=> .func f (a.map (Zvq l)) (c.map (Zvq l))
 |v=>Zvq l v
def ZpE (m:Mem):List Nat:=bif Zmf m then[]else match m with
 | .row es _ _=>es.flatMap λc=>c.flatMap ZcP
 | .map es=>es.flatMap λx=>ZcP x.1++ZcP x.2
 | .dead=> []
def okM (m:Mem):Bool:=bif Zmf m then true else match m with
 | .row es _ _=>es.all λc=>c.all Zb1
 | .map es=>es.all λx=>Zb1 x.1&&Zb1 x.2
 | .dead=>true
def ZsS (l:List Nat) (m:Mem):Mem:=bif Zmf m then m else match m with
 | .row es z m=> .row (es.map λc=>c.map (ren l)) z m
 | .map es=> .map (es.map λx=>(ren l x.1,ren l x.2))
 | .dead=> .dead
def ZrM (H:List Mem) (i:Nat):List Nat:=match H[i]? with|some m=>ZpE m|none=> []
def Zfc (H:List Mem):Nat->List Nat->List Nat
 |0,ids=>ids
 |n+1,ids=>Zfc H n ((ids.flatMap (ZrM H)).foldl Zcl ids)
def Zfh (tm:List (Nat×PV)) (H:List Mem):Option St:=
 let ids:=Zfc H 3 ((tm.flatMap λx=>ZcP x.2).foldl Zcl [])
 if tm.all (λx=>Zb1 x.2)then
  (Za3 (λi=>(H[i]?).bind λm=>if okM m&&(ZpE m).all ids.contains then some (ZsS ids m)else none) ids).map λH'=>⟨tm.map λx=>(x.1,ren ids x.2),H'⟩
 else none
def enterT:Nat->List PV->List (Nat×PV)
 |_,[]=> []
 |i,v::r=>(i,v)::enterT (i+1) r
def sh1 (b:Nat):PV->PV
 | .ref id i n m=> .ref (b+id) i n m
 | .ptr id i r=> .ptr (b+id) i r
 | .map id=> .map (b+id)
 |v=>v
def sh (b:Nat):PV->PV
 | .agg cs=> .agg (cs.map (sh1 b))
 | .func f a c=> .func f (a.map (sh1 b)) (c.map (sh1 b))
 |v=>sh1 b v
def shM (b:Nat):Mem->Mem
 | .row es z m=> .row (es.map λc=>c.map (sh b)) z m
 | .map es=> .map (es.map λx=>(sh b x.1,sh b x.2))
 | .dead=> .dead
def ZHA:Mem->Bool
 | .row es _ _=>es.all λc=>c.all Zb1
 | .map es=>es.all λx=>Zb1 x.1&&Zb1 x.2
 | .dead=>true
def Zq3:PV->Bool
 | .lst es=>es.isEmpty
 | .box _ _| .agg _| .func _ _ _| .tup _=>false
 |_=>true
def ZgU:PV->Bool
 | .agg cs=>cs.all Zq3
 | .func _ a c=>a.all Zq3&&c.all Zq3
 |v=>Zq3 v
def ZsE:Mem->Bool
 | .row es _ _=>es.all λc=>c.all ZgU
 | .map es=>es.all λx=>ZgU x.1&&ZgU x.2
 | .dead=>true
def Zcr:PV->List PV
 | .tup vs=>vs
 |v=> [v]
def ZjX:PV->List PV->PV
 | .tup _,vs=> .tup vs
 |_,v::_=>v
 |v,[]=>v
structure Ev where
 ex:Cx->Code->St->Option (Ex×St)
 rn:FuncId->List PV->List Mem->Option (PV×List Mem)
section
variable (P:Program) (h:Hints) (E:Ev)
def ZbZ (f:FuncId) (j:List PV):Option PV:=
 match h.prim f with
 |some g=>(g j).bind λv=>exp ZaZ [] v
 |none=>(E.rn f j []).bind λx=>exp ZaZ x.2 x.1
def Ze8 (f:FuncId) (j:List PV) (base:Nat):Option (PV×List Mem×Bool):=
 (E.rn f j []).bind λx=>(Zfh (enterT 0 (Zcr x.1)) x.2).bind λst=>
 if(st.tm.all λy=>Zb1 y.2)&&st.hp.all ZHA then
  some (ZjX x.1 (st.tm.map λy=>sh base y.2),st.hp.map (shM base),(st.tm.all λy=>ZgU y.2)&&st.hp.all ZsE)
 else none
def ZrS (f:FuncId) (args j:List PV) (H:List Mem):Option (PV×List Mem×List Nat):=
 (ZbZ h E f j).bind λq=>
 if h.mem f then some (q,[],args.flatMap (rch ZaZ H))else if Zji q then some (q,[],[])else none
def ZFH (f:FuncId) (args j:List PV) (H:List Mem) (base:Nat):Option (PV×List Mem×List Nat):=
 (Ze8 E f j base).map λr=>(r.1,r.2.1,bif r.2.2 then[]else args.flatMap (rch ZaZ H))
def ZiO (f:FuncId) (args:List PV) (H:List Mem) (base:Nat):Option (PV×List Mem×List Nat):=
 (Za3 (exp ZaZ H) args).bind λj=>bif h.imp f then ZFH E f args j H base else ZrS h E f args j H
def Zcg (H:List Mem) (b:Builtin) (ts:Array TypeId) (args:List PV):Option PV:=
 match b,args with
 | .len,[x]=>(ts[0]?).bind λt=>ZeW P H t x
 | .min,x::r=>Zj7 min2 r x
 | .max,x::r=>Zj7 max2 r x
 |_,_=>none
def val (v:Option PV):Option (PV×List Mem×List Nat):=v.map λv=>(v,[],[])
abbrev Res:=Option (PV×List Mem×List Nat)
def Zwt (ρ:Operand->Option PV) (c a b:Operand):Option PV:=(ρ c).bind λt=>match t with| .bool t=>if t then ρ a else ρ b|_=>none
def Zqg (base:Nat) (t:TypeId):Res:=(Zek P t).map λcs=>(.ptr base 0 0,[Mem.row [cs] cs.length true],[])
def ZIC (base:Nat) (v:Option PV):Res:=(v.bind Zj3).map λv=>(.ptr base 0 0,[Mem.row [cellsOf v] (cellsOf v).length true],[])
def ZmN (ρ:Operand->Option PV) (t:TypeId) (parts:Array (Nat×Operand)):Option PV:=(Zhj ρ parts).bind λps=>Zju P t ps
def ZcG (base:Nat) (ρ:Operand->Option PV) (t:TypeId) (n:Nat) (parts:Array (Nat×Operand)):Res:=
 (Zhj ρ parts).bind λps=>(ZbM P t n ps).map λm=>(.ref base 0 n n,[m],[])
def Zn6 (H:List Mem) (t:TypeId) (v:Option PV):Option PV:=v.bind λp=>Zcf P H t p
def ZdL (v:Option PV):Option PV:=v.bind λp=>match p with
 | .ptr _ _ _| .box _ _| .func _ _ _=>some p
 |_=>none
def ZKq (op:BinOp) (t:TypeId) (x y:Option PV):Option PV:=x.bind λa=>y.bind λb=>Ziz P op t a b
def Zq0 (t:TypeId):Bool:=match P.underlying t with|some (.interface _)=>true|_=>false
def ZJb (op:BinOp) (t:TypeId) (y:Operand) (x:Option PV):Option PV:=match y,x with
 | .const .nilIface,some .nili=>bif Zq0 P t then ZrR op true else none
 | .const .nilIface,some (.ifc _ _)=>bif Zq0 P t then ZrR op false else none
 |_,_=>none
def Zsh (op:BinOp) (t:TypeId) (y:Operand) (u v:Option PV):Option PV:=match ZKq P op t u v with
 |some r=>some r
 |none=>ZJb P op t y u
def aUn (op:UnOp) (x:Option PV):Option PV:=x.bind λa=>ZKk op a
def Zx6 (H:List Mem) (s d:TypeId) (x:Option PV):Option PV:=x.bind λa=>Zdx P H s d a
def ZvU (ρ:Operand->Option PV) (fn:Fn) (first j:Array Operand):Option PV:=
 match fn with
 | .func f=>(Za3 ρ first.toList).bind λa=>(Za3 ρ j.toList).map λc=> .func f a c
 |_=>none
def Zeb (base:Nat) (t:TypeId) (r:Option Operand):Res:=
 match r with
 |none=>(Zjs P t).map λ_=>(.map base,[Mem.map []],[])
 |some _=>none
def Zc5 (base:Nat) (t:TypeId) (l c:Option PV):Res:=
 l.bind λl=>c.bind λc=>(ZgO P t l c).map λg=>(.ref base 0 g.2.1 g.2.2,[g.1],[])
def Zrs (ρ:Operand->Option PV) (x:Option Operand):Option (Option PV):=match x with|none=>some none|some l=>(ρ l).map some
def Zc1 (H:List Mem) (ρ:Operand->Option PV) (t:TypeId) (x:Operand) (lo hi j:Option Operand):Option PV:=
 (ρ x).bind λv=>(Zrs ρ lo).bind λl=>(Zrs ρ hi).bind λk=>(Zrs ρ j).bind λm=>ZcE P H t v l k m
def ZgA (s:TypeId) (v:Option PV) (f:Nat):Option PV:=v.bind λv=>Zc6 P s v f
def Zs8 (s:TypeId) (v:Option PV) (f:Nat):Option PV:=v.bind λv=>ZnV P s v f
def Zbc (H:List Mem) (t:TypeId) (v j:Option PV):Option PV:=v.bind λv=>j.bind λj=>Zar P H t v j
def Zs9 (t:TypeId) (v j:Option PV):Option PV:=v.bind λv=>j.bind λj=>ZiM P t v j
def Zhx (H:List Mem) (t:TypeId) (v j:Option PV) (ok:Bool):Option PV:=v.bind λv=>j.bind λj=>Zd3 P H t v j ok
def notIfc (P:Program) (t:TypeId):Bool:=
 match P.underlying t with
 |some (.interface _)=>false
 |some _=>true
 |none=>false
def Zh4 (t:TypeId) (v:Option PV):Option PV:=v.bind λv=>bif notIfc P t then(ZHR v).map (.ifc t)else none
def Zhc (v:Option PV) (u:TypeId) (ok:Bool):Option PV:=v.bind λ_=>(λ_=>none) P
def Zfa (v:Option PV) (i:Nat):Option PV:=v.bind λv=>match v with| .tup vs=>vs[i]? |_=>none
def Zcv (H:List Mem) (ρ:Operand->Option PV) (b:Builtin) (c:Call):Option PV:=(Za3 ρ c.args.toList).bind λvs=>Zcg P H b c.argTypes vs
def Zic (H:List Mem) (base:Nat) (ρ:Operand->Option PV) (f:FuncId) (c:Call):Res:=
 if h.opn f then none else(Za3 ρ c.args.toList).bind λvs=>ZiO h E f vs H base
def ZjS (H:List Mem) (base:Nat) (ρ:Operand->Option PV) (c:Call):Res:=
 match c.callee with
 | .builtin b=>val (Zcv P H ρ b c)
 | .value (.func f)=>Zic h E H base ρ f c
 |_=>none
def opR (H:List Mem) (base:Nat) (ρ:Operand->Option PV) (o:Oper):Res:=
 match o.op with
 | .move x=>val (ρ x)
 | .assign x=>val (ρ x)
 | .pick c a b=>val (Zwt ρ c a b)
 | .alloc t=>Zqg P base t
 | .box _ x=>ZIC base (ρ x)
 | .build t parts=>val (ZmN P ρ t parts)
 | .buildSlice t n parts=>ZcG P base ρ t n parts
 | .load t a=>val (Zn6 P H t (ρ a))
 | .nilCheck x=>val (ZdL (ρ x))
 | .binOp op t x y _=>val (Zsh P op t y (ρ x) (ρ y))
 | .unOp op _ x=>val (aUn op (ρ x))
 | .convert s d x=>val (Zx6 P H s d (ρ x))
 | .makeFunc fn first j=>val (ZvU ρ fn first j)
 | .makeMap t r=>Zeb P base t r
 | .makeSlice t l c=>Zc5 P base t (ρ l) (ρ c)
 | .slice t x lo hi C=>val (Zc1 P H ρ t x lo hi C)
 | .fieldAddr s x f=>val (ZgA P s (ρ x) f)
 | .field s x f=>val (Zs8 P s (ρ x) f)
 | .indexAddr t x i=>val (Zbc P H t (ρ x) (ρ i))
 | .index t x i=>val (Zs9 P t (ρ x) (ρ i))
 | .lookup t x k ok=>val (Zhx P H t (ρ x) (ρ k) ok)
 | .extract x i=>val (Zfa (ρ x) i)
 | .makeInterface t x=>val (Zh4 P t (ρ x))
 | .typeAssert x _ u ok=>val (Zhc P (ρ x) u ok)
 | .call c=>ZjS P h E H base ρ c
 |_=>none
def Zdo (H:List Mem) (t:TypeId) (a x:PV):Option (List Mem):=
 match a with
 | .ptr id i r=>match H[id]? with
  |some (.row es z true)=>(es[i]?).bind λc=>(Zbi P t).bind λn=>
   if(cellsOf x).length=n/\r+n<=c.length then some (H.set id (.row (es.set i (splice c r (cellsOf x))) z true))else none
  |_=>none
 |_=>none
def Zrg (H:List Mem):PV->Option (List (List PV))
 | .str b=>some (byteCells b)
 |x=>elems H x
def Zf9 (P:Program) (t:Option TypeId):Bool:=
 match t with
 |none=>true
 |some t=>match P.underlying t with
  |some (.int _)=>false
  |some _=>true
  |none=>false
def ZbQ (H:List Mem) (z by_:Nat) (s:PV) (new:List (List PV)):Option (PV×List Mem):=
 match s with
 | .nils=>if new.isEmpty then some (.nils,H)else if new.length*by_<=140737488355328 then some (.ref H.length 0 new.length new.length,H++ [Mem.row new z true])else none
 | .ref id i n m=>match H[id]? with
  |some (.row es z' true)=>
   if z'=z/\i+n<=es.length then
    if new.isEmpty then some (s,H)
    else if n+new.length<=m then
     if i+(n+new.length)<=es.length then some (.ref id i (n+new.length) m,H.set id (.row (splice es (i+n) new) z true))else none
    else if(n+new.length)*by_<=140737488355328 then
     some (.ref H.length 0 (n+new.length) (n+new.length),(H.set id .dead)++ [Mem.row ((es.drop i).take n++new) z true])
    else none
   else none
  |_=>none
 |_=>none
def Zet (H:List Mem) (ts:Array TypeId) (s x:PV):Option (PV×List Mem):=
 (ts[0]?).bind λt=>(Zmm P t).bind λe=>(Zbi P e).bind λz=>(ZlH P e).bind λby_=>(Zek P e).bind λzero=>(Zrg H x).bind λnew=>
 if Zf9 P (ts[1]?)=true/\0<by_/\0<z/\zero.length=z/\Zge new z=true then ZbQ H z by_ s new else none
def ZvS (H:List Mem) (ts:Array TypeId) (d x:PV):Option (PV×List Mem):=
 (ts[0]?).bind λt=>(Zmm P t).bind λe=>(Zbi P e).bind λz=>(Zrg H x).bind λsrc=>
 if 0<z/\Zge src z=true then
 match d with
 | .nils=>some (.int .i64 0,H)
 | .ref id i n _=>match H[id]? with
  |some (.row es z' true)=>
   if z'=z/\i+n<=es.length then
    some (.int .i64 (min src.length n:Nat),H.set id (.row (splice es i (src.take n)) z true))
   else none
  |_=>none
 |_=>none
 else none
def Zmt (H:List Mem) (ts:Array TypeId) (d:PV):Option (PV×List Mem):=(λ_=>none) P
def Zdv (f:FuncId) (args:List PV) (H:List Mem):Option (PV×List Mem):=
 if h.opn f then E.rn f args H
 else(ZiO h E f args H H.length).map λx=>(x.1,freeze x.2.2 H++x.2.1)
abbrev Zo7:=Option (PV×List Mem)
def ZfW (H:List Mem) (t:TypeId) (p v:Option PV):Zo7:=p.bind λp=>(v.bind Zj3).bind λv=>(Zdo P H t p v).map λH'=>(.tup [],H')
def Zsl (H:List Mem) (t:TypeId) (m k x:Option PV):Zo7:=
 (Zjs P t).bind λe=>m.bind λm=>k.bind λk=>x.bind λv=>(keyOf k).bind λkey=>bif Zgs key e.1 then
  match m with
  | .map id=>match H[id]? with
   |some (.map es)=>(Zdy key v es).map λes'=>(.tup [],H.set id (.map es'))
   |_=>none
  |_=>none
  else none
def frzT (ts:Array TypeId):Bool:=match ts[0]? with|some t=>h.frz t|none=>false
def Zev (H:List Mem) (ts:Array TypeId) (s x:PV):Option (PV×List Mem):=
 bif frzT h ts then(exp ZaZ H x).bind λj=>Zet P (freeze (rch ZaZ H x) H) ts s j else Zet P H ts s x
def Zfd (H:List Mem) (ρ:Operand->Option PV) (c:Call):Zo7:=(Za3 ρ c.args.toList).bind λvs=>match vs with| [s,x]=>Zev P h H c.argTypes s x|_=>none
def Zst (H:List Mem) (ρ:Operand->Option PV) (c:Call):Zo7:=(Za3 ρ c.args.toList).bind λvs=>match vs with| [s,x]=>ZvS P H c.argTypes s x|_=>none
def Zkw (H:List Mem) (ρ:Operand->Option PV) (c:Call):Zo7:=(Za3 ρ c.args.toList).bind λvs=>match vs with| [s]=>Zmt P H c.argTypes s|_=>none
def Zra (H:List Mem) (ρ:Operand->Option PV) (f:FuncId) (c:Call):Zo7:=(Za3 ρ c.args.toList).bind λvs=>Zdv h E f vs H
def Zzy (H:List Mem) (ρ:Operand->Option PV) (x:Operand) (c:Call):Zo7:=
 (ρ x).bind λfv=>match fv with
  | .func f first j=>(Za3 ρ c.args.toList).bind λvs=>Zdv h E f (first++vs++j) H
  |_=>none
def Zh9 (H:List Mem) (ρ:Operand->Option PV) (b:Builtin) (c:Call):Zo7:=
 match b with
 | .append=>Zfd P h H ρ c
 | .copy=>Zst P H ρ c
 | .clear=>Zkw P H ρ c
 |_=>none
def ZvW (H:List Mem) (ρ:Operand->Option PV) (c:Call):Zo7:=
 match c.callee with
 | .builtin b=>Zh9 P h H ρ b c
 | .value (.func f)=>Zra h E H ρ f c
 | .value x=>Zzy h E H ρ x c
 |_=>none
def opW (H:List Mem) (ρ:Operand->Option PV) (o:Oper):Zo7:=
 match o.op with
 | .store t a x=>ZfW P H t (ρ a) (ρ x)
 | .mapUpdate t m k x=>Zsl P H t (ρ m) (ρ k) (ρ x)
 | .insert t m k x=>Zsl P H t (ρ m) (ρ k) (ρ x)
 | .call c=>ZvW P h E H ρ c
 |_=>none
def ZJU (c:Call):Bool:=
 match c.callee with
 | .builtin b=>(match b with| .append| .copy| .clear=>true|_=>false)
 | .value (.func f)=>h.opn f
 |_=>true
def isW (o:Oper):Bool:=
 match o.op with
 | .store _ _ _| .mapUpdate _ _ _ _| .insert _ _ _ _=>true
 | .call c=>ZJU h c
 |_=>false
def ZhA (o:Oper):Bool:=
 match o.op with
 | .store _ _ _=>true
 | .call c=>(match c.callee with| .builtin b=>(match b with| .append=>true|_=>false)|_=>false)
 |_=>false
def isA (o:Oper):Bool:=
 match o.op with
 | .alloc _| .box _ _| .buildSlice _ _ _=>true
 |_=>false
def Zj6 (H:List Mem) (r:Res):Zo7:=r.map λx=>(x.1,freeze x.2.2 H++x.2.1)
def Zcz (H:List Mem) (v:Option PV):Zo7:=v.map λv=>(v,H)
def ZiJ (H:List Mem) (ρ:Operand->Option PV) (c:Call):Zo7:=
 match c.callee with
 | .builtin b=>(match b with| .append=>Zfd P h H ρ c| .copy=>Zst P H ρ c| .clear=>Zkw P H ρ c|b=>Zcz H (Zcv P H ρ b c))
 | .value (.func f)=>if h.opn f then Zra h E H ρ f c else Zj6 H (Zic h E H H.length ρ f c)
 | .value x=>Zzy h E H ρ x c
 |_=>none
def opA (H:List Mem) (ρ:Operand->Option PV) (o:Oper):Zo7:=
 match o.op with
 | .move x=>Zcz H (ρ x)
 | .assign x=>Zcz H (ρ x)
 | .pick c a b=>Zcz H (Zwt ρ c a b)
 | .alloc t=>Zj6 H (Zqg P H.length t)
 | .box _ x=>Zj6 H (ZIC H.length (ρ x))
 | .build t parts=>Zcz H (ZmN P ρ t parts)
 | .buildSlice t n parts=>Zj6 H (ZcG P H.length ρ t n parts)
 | .load t a=>Zcz H (Zn6 P H t (ρ a))
 | .nilCheck x=>Zcz H (ZdL (ρ x))
 | .binOp op t x y _=>Zcz H (Zsh P op t y (ρ x) (ρ y))
 | .unOp op _ x=>Zcz H (aUn op (ρ x))
 | .convert s d x=>Zcz H (Zx6 P H s d (ρ x))
 | .makeFunc fn first j=>Zcz H (ZvU ρ fn first j)
 | .makeMap t r=>Zj6 H (Zeb P H.length t r)
 | .makeSlice t l c=>Zj6 H (Zc5 P H.length t (ρ l) (ρ c))
 | .slice t x lo hi C=>Zcz H (Zc1 P H ρ t x lo hi C)
 | .fieldAddr s x f=>Zcz H (ZgA P s (ρ x) f)
 | .field s x f=>Zcz H (Zs8 P s (ρ x) f)
 | .indexAddr t x i=>Zcz H (Zbc P H t (ρ x) (ρ i))
 | .index t x i=>Zcz H (Zs9 P t (ρ x) (ρ i))
 | .lookup t x k ok=>Zcz H (Zhx P H t (ρ x) (ρ k) ok)
 | .extract x i=>Zcz H (Zfa (ρ x) i)
 | .makeInterface t x=>Zcz H (Zh4 P t (ρ x))
 | .typeAssert x _ u ok=>Zcz H (Zhc P (ρ x) u ok)
 | .call c=>ZiJ P h E H ρ c
 | .store t a x=>ZfW P H t (ρ a) (ρ x)
 | .mapUpdate t m k x=>Zsl P H t (ρ m) (ρ k) (ρ x)
 | .insert t m k x=>Zsl P H t (ρ m) (ρ k) (ρ x)
 |_=>none
def ZgX (N:Nat) (dst:Option Tmp) (v:PV) (tm:List (Nat×PV)):Option (List (Nat×PV)):=
 match dst with
 |none=>some tm
 |some d=>if d<N then some ((d,v)::tm)else none
def ZeT (ops:Array Oper) (tm:List (Nat×PV)) (o:Oper):Option Bool:=
 match o.guard with
 |none=>some true
 |some (j,want)=>match((ops[j]?).bind (·.dst)).bind (get tm)with
  |some (.bool b)=>some (b==want)
  |some (.tup [])=>some false
  |_=>none
def Zf2 (N:Nat) (ops:Array Oper) (o:Oper) (s:St):Option St:=
 (ZeT ops s.tm o).bind λb=>
 bif b then(opA P h E s.hp (ev s.tm) o).bind λx=>(ZgX N o.dst x.1 s.tm).map λtm=>⟨tm,x.2⟩
 else(ZgX N o.dst (.tup []) s.tm).map λtm=>⟨tm,s.hp⟩
def Zgk (N:Nat) (ops:Array Oper) (l:List Oper):St->Option St:=
 List.rec some (λo _ j s=>(Zf2 P h E N ops o s).bind j) l
def has (i:Nat) (l:List Nat):Bool:=List.rec false (λj _ C=>bif Nat.beq i j then true else C) l
def ZaU (H:List Mem) (ρ:Operand->Option PV) (o:Oper):Option PV:=
 (opR P h E H H.length ρ o).bind λx=>match x with|(v,[],[])=>some v|_=>none
def ZJX (N:Nat) (ops:Array Oper) (o:Oper) (s:St):Option St:=
 (ZeT ops s.tm o).bind λb=>
 bif b then(ZaU P h E s.hp (ev s.tm) o).bind λv=>(ZgX N o.dst v s.tm).map λtm=>⟨tm,s.hp⟩
 else(ZgX N o.dst (.tup []) s.tm).map λtm=>⟨tm,s.hp⟩
def ZiX (N:Nat) (ops:Array Oper) (ls:List Nat) (i:Nat) (o:Oper) (s:St):Option St:=
 bif has i ls then ZJX P h E N ops o s else Zf2 P h E N ops o s
def ZGN:PV->PV->Bool
 | .int k a, .int l b=>decide (k=l)&&decide (a=b)
 | .bool a, .bool b=>a==b
 | .str a, .str b=>a.data.toList==b.data.toList
 | .ref i a n m, .ref j b o q=>Nat.beq i j&&Nat.beq a b&&Nat.beq n o&&Nat.beq m q
 | .ptr i a n, .ptr j b o=>Nat.beq i j&&Nat.beq a b&&Nat.beq n o
 | .nils, .nils=>true
 | .nilp, .nilp=>true
 | .nili, .nili=>true
 | .ifc t (.b a), .ifc u (.b b)=>Nat.beq t u&&a==b
 | .ifc t (.i k a), .ifc u (.i l b)=>Nat.beq t u&&(decide (k=l)&&decide (a=b))
 | .ifc t (.s a), .ifc u (.s b)=>Nat.beq t u&&a.data.toList==b.data.toList
 |_,_=>false
def Zwf (s:PV->PV->Bool) (a:List PV):List PV->Bool:=
 List.rec (λb=>match b with| []=>true|_::_=>false) (λx _ j b=>match b with| []=>false|y::r=>s x y&&j r) a
def ZAb (s:PV->PV->Bool) (a:List (List PV)):List (List PV)->Bool:=
 List.rec (λb=>match b with| []=>true|_::_=>false) (λx _ j b=>match b with| []=>false|y::r=>Zwf s x y&&j r) a
def Zmq (s:PV->PV->Bool):PV->PV->Bool
 | .lst a, .lst b=>ZAb s a b
 | .agg a, .agg b=>Zwf s a b
 | .box a i, .box b j=>Zwf s a b&&Nat.beq i j
 |u,v=>s u v
def ZgW:PV->PV->Bool:=Zmq (Zmq (Zmq (Zmq ZGN)))
def Ziw (u v:PV):Bool:=bif ZgW u v then true else @decide (u=v) (Classical.propDecidable _)
def Zfo (acc:List (Nat×Oper×List (Nat×PV)×PV)) (H:List Mem):Option Unit:=
 List.rec (some ()) (λx _ j=>(ZaU P h E H (ev x.2.2.1) x.2.1).bind λv=>bif Ziw v x.2.2.2 then j else none) acc
def Zgo (o:Oper) (j:Nat):Bool:=List.rec false (λe _ C=>bif Nat.beq e.on j&&Region.binds .any e then true else C) o.after.toList
def ZcW (o:Oper) (acc:List (Nat×Oper×List (Nat×PV)×PV)):List (Nat×Oper×List (Nat×PV)×PV):=
 bif isW h o then List.rec [] (λx _ j=>bif Zgo o x.1 then j else x::j) acc else acc
def ZHF (ops:Array Oper) (i:Nat) (o:Oper) (s:St) (acc:List (Nat×Oper×List (Nat×PV)×PV)):Option (List (Nat×Oper×List (Nat×PV)×PV)):=
 (ZeT ops s.tm o).bind λb=>bif b then(ZaU P h E s.hp (ev s.tm) o).map λv=>(i,o,s.tm,v)::acc else some acc
def ZbH (N:Nat) (ops:Array Oper) (ls:List Nat) (l:List Oper):Nat->List (Nat×Oper×List (Nat×PV)×PV)->St->Option St:=
 List.rec (λ_ _ s=>some s) (λo _ I i acc s=>(ZiX P h E N ops ls i o s).bind λC=>
  bif has i ls then(ZHF P h E ops i o s acc).bind λj=>I (i+1) j C else(Zfo P h E (ZcW h o acc) C.hp).bind λ_=>I (i+1) (ZcW h o acc) C) l
def ZvB (N:Nat) (ls:List Nat) (ops:Array Oper) (s:St):Option St:=
 match ls with
 | []=>Zgk P h E N ops ops.toList s
 |ls=>ZbH P h E N ops ls ops.toList 0 [] s
def ZeD (l:List Nat) (i:Nat):Nat:=List.rec 0 (λj _ C=>bif Nat.beq i j then 0 else C+1) l
def ZHE (π:List Nat) (l:List Edge):List Edge:=List.rec [] (λe _ j=>⟨ZeD π e.on,e.ground⟩::j) l
def ZzW (π:List Nat) (o:Oper):Oper:=⟨o.dst,o.op,o.type,o.pos,(ZHE π o.after.toList).toArray,match o.guard with|some (j,b)=>some (ZeD π j,b)|none=>none⟩
def ZiQ (π:List Nat) (ops:Array Oper) (l:List Nat):List Oper:=List.rec [] (λi _ j=>match ops[i]? with|some o=>ZzW π o::j|none=>j) l
def rgo (π:List Nat) (ops:Array Oper):Array Oper:=match π with| []=>ops|i::r=>(ZiQ (i::r) ops (i::r)).toArray
def ZdG:Code->Nat
 | .region id _ _=>id
 | .seq a _=>ZdG a
 | .block _ b=>ZdG b
 | .scope b=>ZdG b
 |_=>0
def ZfN (k:Option (List Nat×Bool)) (c:Cx) (s:St):Option St:=
 match k with
 |none=>some s
 |some (ks,comp)=>if comp then(if c.base=0 then Zfh (Zpk s.tm ks) s.hp else none)else some ⟨Zpk s.tm ks,s.hp⟩
def Zj2 (tm:List (Nat×PV)) (H:List Mem):ResultVar->Option PV
 | .tmp t=>get tm t
 | .cell a t=>(get tm a).bind λp=>Zcf P H t p
def ZbW:List PV->PV
 | [v]=>v
 |vs=> .tup vs
def step:Ev where
 ex:=λc code s=>match code with
  | .skip=>some (.normal,s)
  | .label _=>some (.normal,s)
  | .region id ops _=>(ZvB P h E c.N (h.light c.fid id) (rgo (h.perm c.fid id) ops) s).map λC=>(.normal,C)
  | .seq a b=>(E.ex c a s).bind λ(e,C)=>match e with
   | .normal=>E.ex c b C
   |e=>some (e,C)
  | .cond x a b=>(ev s.tm x).bind λv=>match v with
   | .bool t=>E.ex c (if t then a else b) s
   |_=>none
  | .block id b=>(E.ex c b s).bind λ(e,C)=>match e with
   | .exit j=>if j=id then(ZfN (h.keepB c.fid id) c C).map λI=>(.normal,I)else some (.exit j,C)
   | .normal=>(ZfN (h.keepB c.fid id) c C).map λI=>(.normal,I)
   | .ret=>some (.ret,C)
  | .loop b=>(ZfN (h.keep c.fid (ZdG b)) c s).bind λJ=>(E.ex c b J).bind λ(e,C)=>match e with
   | .normal=>E.ex c (.loop b) C
   |e=>some (e,C)
  | .exit id=>some (.exit id,s)
  | .ret=>some (.ret,s)
  |_=>none
 rn:=λf args H=>
  if h.ok f then
  match P.funcs[f]? with
  |some fn=>match fn.body with
   |some code=>if args.length<=fn.ntmps then
    (E.ex ⟨f,H.length,fn.ntmps⟩ code ⟨enterT 0 args,H⟩).bind λ(e,s)=>match e with
    | .exit _=>none
    |_=>(Za3 (Zj2 P s.tm s.hp) fn.results.toList).map λvs=>(ZbW vs,s.hp)
    else none
   |none=>none
  |none=>none
  else none
end
def bot:Ev where
 ex:=λ_ _ _=>none
 rn:=λ_ _ _=>none
def Zc2 (P:Program) (h:Hints) (n:Nat):Ev:=
 Nat.rec bot (λ_ j=>step P h j) n
open Go.RowKit
structure Loc where
 b:Nat
 o:Nat
 z:Nat
 top:Nat
abbrev Phi:=Nat->Option Loc
def ZcZ:PV->Bool
 | .agg _| .tup _=>false
 |_=>true
section
variable (w:World) (S:Nat->Prop)
mutual
def IRel:PV->Value->Prop
 | .bool b,v=>v= .bool b
 | .int k n,v=>v= .int k n
 | .str s,v=>v= .string s
 | .nilp,v=>v= .pointer none
 | .nils,v=>v= .slice none 0 0
 | .nilf,v=>v= .nilFunc
 | .nilm,v=>v= .map none
 | .nili,v=>v= .nilIface
 | .ifc t x,v=>v= .iface t x.val
 | .ptr _ _ _,_=>False
 | .ref _ _ _ _,_=>False
 | .map _,_=>False
 | .lst es,v=> ∃a c,v= .slice (some a) es.length c/\es.length<=c/\(es=[]\/ ∃b o z,a=⟨b,o,none⟩/\S b/\(∀x∈es,x.length=z)/\EsRel es b o)
 | .box cs r,v=> ∃b o,v= .pointer (some ⟨b,o+r,none⟩)/\S b/\CsRel cs b o
 | .func f first j,v=> ∃C cs,v= .func (.func f) C cs/\LRel first C.toList/\LRel j cs.toList
 | .agg cs,v=> ∃arr,v= .agg arr/\(∀c∈cs,ZcZ c=true)/\LRel cs arr.toList
 | .tup vs,v=> ∃arr,v= .tuple arr/\LRel vs arr.toList
def CsRel:List PV->Nat->Nat->Prop
 | [],_,_=>True
 |p::ps,b,o=>(ZcZ p=true/\ ∃v,w.cell? ⟨b,o,none⟩=some v/\IRel p v)/\CsRel ps b (o+1)
def EsRel:List (List PV)->Nat->Nat->Prop
 | [],_,_=>True
 |c::cs,b,o=>CsRel c b o/\EsRel cs b (o+c.length)
def LRel:List PV->List Value->Prop
 | [],vs=>vs=[]
 |p::ps,vs=> ∃v r,vs=v::r/\IRel p v/\LRel ps r
end
end
section
variable {w w':World} {S S':Nat->Prop}
def Zg8 {b:Nat} (h:w'.heap[b]? =w.heap[b]?) (o:Nat):w'.cell? ⟨b,o,none⟩=w.cell? ⟨b,o,none⟩:=by simp[World.cell?,h]
mutual
theorem IRel.mono (j: ∀b,S b->S' b/\w'.heap[b]? =w.heap[b]?): ∀ (p:PV) (v:Value),IRel w S p v->IRel w' S' p v
 | .bool _,_,h| .int _ _,_,h| .str _,_,h| .nilp,_,h| .nils,_,h| .nilf,_,h| .nilm,_,h| .nili,_,h| .ifc _ _,_,h=>by simpa only[IRel]using h
 | .ptr _ _ _,_,h| .ref _ _ _ _,_,h| .map _,_,h=>by simp only[IRel]at h
 | .lst es,v,h=>by simp only[IRel]at h|-;obtain⟨a,c,C,I,J⟩:=h;refine⟨a,c,C,I, ?_⟩;rcases J with J|⟨b,o,z,U,R,hz,he⟩;exact .inl J;exact .inr ⟨b,o,z,U,(j b R).1,hz,EsRel.mono j es b o (j b R).2 he⟩
 | .box cs r,v,h=>by simp only[IRel]at h|-;obtain⟨b,o,C,R,hc⟩:=h;exact⟨b,o,C,(j b R).1,CsRel.mono j cs b o (j b R).2 hc⟩
 | .func f a c,v,h=>by simp only[IRel]at h|-;obtain⟨fs,cs,C,I,J⟩:=h;exact⟨fs,cs,C,LRel.mono j a _ I,LRel.mono j c _ J⟩
 | .agg cs,v,h=>by simp only[IRel]at h|-;obtain⟨arr,C,h0,I⟩:=h;exact⟨arr,C,h0,LRel.mono j cs _ I⟩
 | .tup cs,v,h=>by simp only[IRel]at h|-;obtain⟨arr,C,I⟩:=h;exact⟨arr,C,LRel.mono j cs _ I⟩
theorem CsRel.mono (j: ∀b,S b->S' b/\w'.heap[b]? =w.heap[b]?): ∀ (l:List PV) (b o:Nat),w'.heap[b]? =w.heap[b]?->CsRel w S l b o->CsRel w' S' l b o
 | [],_,_,_,_=>by simp only[CsRel]
 |p::ps,b,o,C,h=>by simp only[CsRel]at h|-;obtain⟨⟨I,v,J,hp⟩,R⟩:=h;exact⟨⟨I,v,by rw[Zg8 C];exact J,IRel.mono j p v hp⟩,CsRel.mono j ps b (o+1) C R⟩
theorem EsRel.mono (j: ∀b,S b->S' b/\w'.heap[b]? =w.heap[b]?): ∀ (l:List (List PV)) (b o:Nat),w'.heap[b]? =w.heap[b]?->EsRel w S l b o->EsRel w' S' l b o
 | [],_,_,_,_=>by simp only[EsRel]
 |c::cs,b,o,C,h=>by simp only[EsRel]at h|-;exact⟨CsRel.mono j c b o C h.1,EsRel.mono j cs b _ C h.2⟩
theorem LRel.mono (j: ∀b,S b->S' b/\w'.heap[b]? =w.heap[b]?): ∀ (l:List PV) (vs:List Value),LRel w S l vs->LRel w' S' l vs
 | [],_,h=>by simpa only[LRel]using h
 |p::ps,vs,h=>by simp only[LRel]at h|-;obtain⟨v,r,C,I,J⟩:=h;exact⟨v,r,C,IRel.mono j p v I,LRel.mono j ps r J⟩
end
end
section
variable (φ:Phi) (w:World) (S:Nat->Prop)
mutual
def VRel:PV->Value->Prop
 | .ptr id i r,v=> ∃l,φ id=some l/\v= .pointer (some ⟨l.b,l.o+i*l.z+r,none⟩)
 | .ref id i n m,v=> ∃l a c,φ id=some l/\v= .slice (some a) n c/\n<=m/\m<=c/\((n=0/\c=0)\/(a=⟨l.b,l.o+i*l.z,none⟩/\(i+c)*l.z<=l.top))
 | .map id,v=> ∃l,φ id=some l/\v= .map (some l.b)
 | .func f first j,v=> ∃C cs,v= .func (.func f) C cs/\VL first C.toList/\VL j cs.toList
 | .agg cs,v=> ∃arr,v= .agg arr/\(∀c∈cs,ZcZ c=true)/\VL cs arr.toList
 | .tup vs,v=> ∃arr,v= .tuple arr/\VL vs arr.toList
 | .bool b,v=>v= .bool b
 | .int k n,v=>v= .int k n
 | .str s,v=>v= .string s
 | .nilp,v=>v= .pointer none
 | .nils,v=>v= .slice none 0 0
 | .nilf,v=>v= .nilFunc
 | .nilm,v=>v= .map none
 | .nili,v=>v= .nilIface
 | .ifc t x,v=>v= .iface t x.val
 | .lst es,v=>IRel w S (.lst es) v
 | .box cs r,v=>IRel w S (.box cs r) v
def VL:List PV->List Value->Prop
 | [],vs=>vs=[]
 |p::ps,vs=> ∃v r,vs=v::r/\VRel p v/\VL ps r
end
def VC:List PV->Nat->Nat->Prop
 | [],_,_=>True
 |p::ps,b,o=>(ZcZ p=true/\ ∃v,w.cell? ⟨b,o,none⟩=some v/\VRel φ w S p v)/\VC ps b (o+1)
def VE:List (List PV)->Nat->Nat->Prop
 | [],_,_=>True
 |c::cs,b,o=>VC φ w S c b o/\VE cs b (o+c.length)
def VM:List (PV×PV)->List MapEntry->Prop
 | [],l=>l=[]
 |(k,v)::r,l=> ∃e j,l=e::j/\VRel φ w S k e.key/\VRel φ w S v e.val/\VM r j
end
section
variable {φ φ':Phi} {w w':World} {S S':Nat->Prop}
mutual
theorem VRel.mono (hp: ∀id l,φ id=some l->φ' id=some l) (I: ∀b,S b->S' b/\w'.heap[b]? =w.heap[b]?): ∀ (p:PV) (v:Value),VRel φ w S p v->VRel φ' w' S' p v
 | .bool _,_,h| .int _ _,_,h| .str _,_,h| .nilp,_,h| .nils,_,h| .nilf,_,h| .nilm,_,h| .nili,_,h| .ifc _ _,_,h=>by simpa only[VRel]using h
 | .ptr _ _ _,_,h=>by simp only[VRel]at h|-;obtain⟨l,j,C⟩:=h;exact⟨l,hp _ _ j,C⟩
 | .ref _ _ _ _,_,h=>by simp only[VRel]at h|-;obtain⟨l,a,c,j,C⟩:=h;exact⟨l,a,c,hp _ _ j,C⟩
 | .map _,_,h=>by simp only[VRel]at h|-;obtain⟨l,j,C⟩:=h;exact⟨l,hp _ _ j,C⟩
 | .lst es,v,h=>by simp only[VRel]at h|-;exact IRel.mono I _ _ h
 | .box cs r,v,h=>by simp only[VRel]at h|-;exact IRel.mono I _ _ h
 | .func f a c,v,h=>by simp only[VRel]at h|-;obtain⟨J,cs,j,C,R⟩:=h;exact⟨J,cs,j,VL.mono hp I a _ C,VL.mono hp I c _ R⟩
 | .agg cs,v,h=>by simp only[VRel]at h|-;obtain⟨arr,j,U,C⟩:=h;exact⟨arr,j,U,VL.mono hp I cs _ C⟩
 | .tup cs,v,h=>by simp only[VRel]at h|-;obtain⟨arr,j,C⟩:=h;exact⟨arr,j,VL.mono hp I cs _ C⟩
theorem VL.mono (hp: ∀id l,φ id=some l->φ' id=some l) (j: ∀b,S b->S' b/\w'.heap[b]? =w.heap[b]?): ∀ (l:List PV) (vs:List Value),VL φ w S l vs->VL φ' w' S' l vs
 | [],_,h=>by simpa only[VL]using h
 |p::ps,vs,h=>by simp only[VL]at h|-;obtain⟨v,r,C,I,J⟩:=h;exact⟨v,r,C,VRel.mono hp j p v I,VL.mono hp j ps r J⟩
end
def VC.mono (hp: ∀id l,φ id=some l->φ' id=some l) (j: ∀b,S b->S' b/\w'.heap[b]? =w.heap[b]?): ∀ (l:List PV) (b o:Nat),w'.heap[b]? =w.heap[b]?->VC φ w S l b o->VC φ' w' S' l b o
 | [],_,_,_,_=>trivial
 |p::ps,b,o,C,h=>by(let⟨⟨I,v,J,R⟩,U⟩:=h);exact⟨⟨I,v,by rw[Zg8 C];exact J,VRel.mono hp j p v R⟩,VC.mono hp j ps b (o+1) C U⟩
def VE.mono (hp: ∀id l,φ id=some l->φ' id=some l) (j: ∀b,S b->S' b/\w'.heap[b]? =w.heap[b]?): ∀ (l:List (List PV)) (b o:Nat),w'.heap[b]? =w.heap[b]?->VE φ w S l b o->VE φ' w' S' l b o
 | [],_,_,_,_=>trivial
 |c::cs,b,o,C,h=>⟨VC.mono hp j c b o C h.1,VE.mono hp j cs b _ C h.2⟩
def VM.mono (hp: ∀id l,φ id=some l->φ' id=some l) (j: ∀b,S b->S' b/\w'.heap[b]? =w.heap[b]?): ∀ (l:List (PV×PV)) (es:List MapEntry),VM φ w S l es->VM φ' w' S' l es
 | [],_,h=>h
 |(k,v)::r,es,h=>by(let⟨e,C,I,J,R,U⟩:=h);exact⟨e,C,I,VRel.mono hp j _ _ J,VRel.mono hp j _ _ R,VM.mono hp j r C U⟩
mutual
theorem IRel.toV: ∀ (p:PV) (v:Value),IRel w S p v->VRel φ w S p v
 | .bool _,_,h| .int _ _,_,h| .str _,_,h| .nilp,_,h| .nils,_,h| .nilf,_,h| .nilm,_,h| .nili,_,h| .ifc _ _,_,h=>by simpa only[VRel,IRel]using h
 | .ptr _ _ _,_,h| .ref _ _ _ _,_,h| .map _,_,h=>by simp only[IRel]at h
 | .lst es,v,h=>by simp only[VRel];exact h
 | .box cs r,v,h=>by simp only[VRel];exact h
 | .func f a c,v,h=>by simp only[VRel,IRel]at h|-;obtain⟨I,cs,j,C,J⟩:=h;exact⟨I,cs,j,LRel.toV a _ C,LRel.toV c _ J⟩
 | .agg cs,v,h=>by simp only[VRel,IRel]at h|-;obtain⟨arr,j,R,C⟩:=h;exact⟨arr,j,R,LRel.toV cs _ C⟩
 | .tup cs,v,h=>by simp only[VRel,IRel]at h|-;obtain⟨arr,j,C⟩:=h;exact⟨arr,j,LRel.toV cs _ C⟩
theorem LRel.toV: ∀ (l:List PV) (vs:List Value),LRel w S l vs->VL φ w S l vs
 | [],_,h=>by simpa only[VL,LRel]using h
 |p::ps,vs,h=>by simp only[VL,LRel]at h|-;obtain⟨v,r,j,C,I⟩:=h;exact⟨v,r,j,IRel.toV p v C,LRel.toV ps r I⟩
end
def CsRel.toV: ∀ (l:List PV) (b o:Nat),CsRel w S l b o->VC φ w S l b o
 | [],_,_,_=>trivial
 |p::ps,b,o,h=>by simp only[CsRel]at h;obtain⟨⟨j,v,C,I⟩,J⟩:=h;exact⟨⟨j,v,C,IRel.toV p v I⟩,CsRel.toV ps b (o+1) J⟩
theorem EsRel.toV: ∀ (l:List (List PV)) (b o:Nat),EsRel w S l b o->VE φ w S l b o
 | [],_,_,_=>trivial
 |c::cs,b,o,h=>by simp only[EsRel]at h;exact⟨CsRel.toV c b o h.1,EsRel.toV cs b _ h.2⟩
theorem VL.length: ∀ {l:List PV} {vs:List Value},VL φ w S l vs->vs.length=l.length
 | [],_,h=>by simp only[VL]at h;simp[h]
 |p::ps,_,h=>by simp only[VL]at h;obtain⟨v,r,rfl,_,j⟩:=h;simp[VL.length j]
def VL.get: ∀ {l:List PV} {vs:List Value} {i:Nat} {p:PV},VL φ w S l vs->l[i]? =some p-> ∃v,vs[i]? =some v/\VRel φ w S p v
 | [],_,_,_,_,hi=>by simp at hi
 |q::ps,_,i,p,h,hi=>by obtain⟨v,r,rfl,j,C⟩:=h;cases i with|zero=>simp at hi;subst hi;exact⟨v,rfl,j⟩|succ i=>simp at hi|-;exact VL.get C hi
theorem VL.append: ∀ {l m:List PV} {vs us:List Value},VL φ w S l vs->VL φ w S m us->VL φ w S (l++m) (vs++us)
 | [],_,_,_,h,j=>by simp only[VL]at h;subst h;simpa using j
 |p::ps,_,_,_,h,j=>by simp only[VL]at h;obtain⟨v,r,rfl,C,I⟩:=h;exact⟨v,r++_,by simp,C,VL.append I j⟩
def VL.split: ∀ {l m:List PV} {vs:List Value},VL φ w S (l++m) vs-> ∃a b,vs=a++b/\VL φ w S l a/\VL φ w S m b
 | [],_,vs,h=>⟨[],vs,rfl,by simp only[VL],h⟩
 |p::ps,m,vs,h=>by have j:VL φ w S (p::(ps++m)) vs:=h;simp only[VL]at j;obtain⟨v,r,rfl,C,I⟩:=j;obtain⟨a,b,rfl,J,R⟩:=VL.split I;exact⟨v::a,b,rfl,⟨v,a,rfl,C,J⟩,R⟩
theorem VL.take: ∀ {l:List PV} {vs:List Value} (n:Nat),VL φ w S l vs->VL φ w S (l.take n) (vs.take n)
 | [],vs,n,h=>by simp only[VL]at h;subst h;simp[VL]
 |p::ps,vs,0,_=>by simp[VL]
 |p::ps,vs,n+1,h=>by simp only[VL]at h;obtain⟨v,r,rfl,j,C⟩:=h;simp only[List.take_succ_cons,VL];exact⟨v,r.take n,rfl,j,VL.take n C⟩
theorem VL.drop: ∀ {l:List PV} {vs:List Value} (n:Nat),VL φ w S l vs->VL φ w S (l.drop n) (vs.drop n)
 | [],vs,n,h=>by simp only[VL]at h;subst h;simp[VL]
 |p::ps,vs,0,h=>by simpa using h
 |p::ps,vs,n+1,h=>by simp only[VL]at h;obtain⟨v,r,rfl,C,j⟩:=h;simpa using VL.drop n j
def VC.get: ∀ {l:List PV} {b o i:Nat} {p:PV},VC φ w S l b o->l[i]? =some p->ZcZ p=true/\ ∃v,w.cell? ⟨b,o+i,none⟩=some v/\VRel φ w S p v
 | [],_,_,_,_,_,hi=>by simp at hi
 |q::ps,b,o,i,p,h,hi=>by obtain⟨⟨C,v,I,J⟩,R⟩:=h;cases i with|zero=>simp at hi;subst hi;exact⟨C,v,I,J⟩|succ i=>simp at hi;obtain⟨U,u,hu,j⟩:=VC.get R hi;exact⟨U,u,by rw[<-hu];congr 2;omega,j⟩
def VC.vals: ∀ {l:List PV} {b o:Nat},VC φ w S l b o-> ∃vs,VL φ w S l vs/\(∀c∈l,ZcZ c=true)/\ ∀j v,vs[j]? =some v->w.cell? ⟨b,o+j,none⟩=some v
 | [],_,_,_=>⟨[],by simp only[VL],by simp,by simp⟩
 |p::ps,b,o,h=>by obtain⟨⟨I,v,J,R⟩,U⟩:=h;obtain⟨vs,h2,h3,h4⟩:=VC.vals U;refine⟨v::vs,⟨v,vs,rfl,R,h2⟩, ?_, ?_⟩;intro c hc;rcases XaF.1 hc with rfl|hc;exact I;exact h3 c hc;·intro j u C;cases j with|zero=>simp at C;subst C;exact J|succ j=>simp at C;rw[<-h4 j u C];congr 2;omega
def VC.of_vals: ∀ {l:List PV} {vs:List Value} {b o:Nat},VL φ w S l vs->(∀c∈l,ZcZ c=true)->(∀j v,vs[j]? =some v->w.cell? ⟨b,o+j,none⟩=some v)->VC φ w S l b o
 | [],_,_,_,_,_,_=>trivial
 |p::ps,vs,b,o,h,C,I=>by simp only[VL]at h;obtain⟨v,r,rfl,J,R⟩:=h;exact⟨⟨C p Xah,v,by simpa using I 0 v rfl,J⟩,VC.of_vals R (λc hm=>C c (Xai _ hm)) λj u U=>by rw[<-I (j+1) u (by simpa using U)];congr 2;omega⟩
theorem Zub {p:PV} {v:Value} (h:ZcZ p=true) (j:VRel φ w S p v):v.oneCell'=true:=by
 cases p<;>simp[VRel,IRel,ZcZ]at h j<;>first
  |(subst j;rfl)
  |(obtain⟨l,_,rfl⟩:=j;rfl)
  |(obtain⟨l,a,c,_,rfl,_⟩:=j;rfl)
  |(obtain⟨a,c,rfl,_⟩:=j;rfl)
  |(obtain⟨a,c,rfl,_⟩:=j;rfl)
  |(simp at h;done)
def VC.append: ∀ {l m:List PV} {b o:Nat},VC φ w S l b o->VC φ w S m b (o+l.length)->VC φ w S (l++m) b o
 | [],_,_,_,_,j=>by simpa using j
 |p::ps,m,b,o,h,j=>⟨h.1,VC.append h.2 (by rw[show o+1+ps.length=o+(p::ps).length from by simp;omega];exact j)⟩
theorem VC.left: ∀ {l m:List PV} {b o:Nat},VC φ w S (l++m) b o->VC φ w S l b o
 | [],_,_,_,_=>trivial
 |_::_,_,_,_,h=>⟨h.1,VC.left h.2⟩
theorem VC.right: ∀ {l m:List PV} {b o:Nat},VC φ w S (l++m) b o->VC φ w S m b (o+l.length)
 | [],_,_,_,h=>by simpa using h
 |p::ps,_,_,o,h=>by have:=VC.right (l:=ps) h.2;rw[show o+(p::ps).length=o+1+ps.length from by simp;omega];exact this
def VE.flat: ∀ {l:List (List PV)} {b o:Nat},VE φ w S l b o->VC φ w S l.flatten b o
 | [],_,_,_=>trivial
 |c::cs,b,o,h=>by rw[List.flatten_cons];exact VC.append h.1 (VE.flat h.2)
def VE.of_flat: ∀ {l:List (List PV)} {b o:Nat},VC φ w S l.flatten b o->VE φ w S l b o
 | [],_,_,_=>trivial
 |c::cs,b,o,h=>by rw[List.flatten_cons]at h;exact⟨VC.left h,VE.of_flat (VC.right h)⟩
def VE.append: ∀ {l m:List (List PV)} {b o z:Nat},(∀c∈l,c.length=z)->VE φ w S l b o->VE φ w S m b (o+l.length*z)->VE φ w S (l++m) b o
 | [],_,_,_,_,_,_,j=>by simpa using j
 |p::ps,m,b,o,z,C,h,j=>by refine⟨h.1,VE.append (λc I=>C c (Xai _ I)) h.2 ?_⟩;have:p.length=z:=C p Xah;rw[show o+p.length+ps.length*z=o+(p::ps).length*z from by simp[this,Xbs];omega];exact j
theorem VE.left: ∀ {l m:List (List PV)} {b o:Nat},VE φ w S (l++m) b o->VE φ w S l b o
 | [],_,_,_,_=>trivial
 |_::_,_,_,_,h=>⟨h.1,VE.left h.2⟩
theorem VE.right: ∀ {l m:List (List PV)} {b o z:Nat},(∀c∈l,c.length=z)->VE φ w S (l++m) b o->VE φ w S m b (o+l.length*z)
 | [],_,_,_,_,_,h=>by simpa using h
 |p::ps,_,_,o,z,j,h=>by have:=VE.right (λc C=>j c (Xai _ C)) h.2;have hp:=j p Xah;rw[show o+(p::ps).length*z=o+p.length+ps.length*z from by simp[hp,Xbs];omega];exact this
def VE.get {l:List (List PV)} {b o z i:Nat} {c:List PV} (C: ∀c∈l,c.length=z) (h:VE φ w S l b o) (hi:l[i]? =some c):VC φ w S c b (o+i*z):=by
 have I:=(Xaf.1 hi).1;have j:l=l.take i++(c::l.drop (i+1)):=by have:=Xaf.1 hi;rw[<-this.2];simp
 rw[j]at h;have:=VE.right (λc J=>C c (XaY J)) h;rw[Xaz,XaU oM]at this;exact this.1
end
def Mem.alive:Mem->Bool
 | .dead=>false
 |_=>true
structure RowAt (φ:Phi) (w:World) (S:Nat->Prop) (l:Loc) (es:List (List PV)) (z:Nat) (m:Bool):Prop where
 zs:l.z=z
 top:es.length*z<=l.top
 wid: ∀c∈es,c.length=z
 cells:VE φ w S es l.b l.o
 blk: ∃cur e fz,w.heap[l.b]? =some (.cells cur e fz)/\l.o+l.top<=cur.size/\(m=true-> ∀j,j<cur.size->w.frozen? ⟨l.b,j,none⟩=false)
 own:m=true-> ¬S l.b
 frz:m=false->S l.b
def VMc (φ:Phi) (w:World) (S:Nat->Prop) (es:List (PV×PV)) (l:List MapEntry) (clock:Nat):Prop:=VM φ w S es l/\(∀e∈l,e.born<clock)/\(l.map (·.born)).Nodup
def VMc.mono {φ φ':Phi} {w w':World} {S S':Nat->Prop} (hp: ∀id l,φ id=some l->φ' id=some l) (j: ∀b,S b->S' b/\w'.heap[b]? =w.heap[b]?) {es:List (PV×PV)} {l:List MapEntry} {clock:Nat} (h:VMc φ w S es l clock):VMc φ' w' S' es l clock:=
 ⟨VM.mono hp j _ _ h.1,h.2⟩
class Laid where
 ok:(Nat->Prop)->World->Prop
 mono: ∀S w S' w',(∀b,S b->S' b/\w'.heap[b]? =w.heap[b]?)->ok S w->ok S' w'
instance (priority:=low) Laid.nothing:Laid:=⟨λ_ _=>True,λ_ _ _ _ _ _=>trivial⟩
structure Inv [Laid] (φ:Phi) (H:List Mem) (w:World) (S:Nat->Prop) (B:Nat):Prop where
 live: ∀id l,φ id=some l->B<=l.b/\l.b<w.heap.size/\id<H.length
 row: ∀id l es z m,φ id=some l->H[id]? =some (.row es z m)->RowAt φ w S l es z m
 map: ∀id l es,φ id=some l->H[id]? =some (.map es)-> ¬S l.b/\ ∃ents clock,w.heap[l.b]? =some (.map ents clock)/\VMc φ w S es ents.toList clock
 apart: ∀id id' l l' m m',id≠id'->φ id=some l->φ id'=some l'->H[id]? =some m->H[id']? =some m'->m.alive=true->m'.alive=true->l.b≠l'.b
 stable: ∀b,S b->b<w.heap.size
 base:B<=w.heap.size
 laid:Laid.ok S w
variable [Laid]
structure Evo (k B:Nat) (φ:Phi) (S:Nat->Prop) (w:World) (φ':Phi) (S':Nat->Prop) (w':World):Prop where
 phi: ∀id l,id<k->φ id=some l->φ' id=some l
 st: ∀b,S b->S' b/\w'.heap[b]? =w.heap[b]?
 old: ∀b,b<B->S' b->S b
 below:Below B w w'
theorem Evo.refl (k B:Nat) (φ:Phi) (S:Nat->Prop) (w:World):Evo k B φ S w φ S w:=
 ⟨λ_ _ _ h=>h,λ_ h=>⟨h,rfl⟩,λ_ _ h=>h,Below.refl _ _⟩
def Evo.trans {k B:Nat} {φ φ' j:Phi} {S S' I:Nat->Prop} {w w' J:World} (h:Evo k B φ S w φ' S' w') (R:Evo k B φ' S' w' j I J):Evo k B φ S w j I J:=
 ⟨λid l U hl=>R.phi id l U (h.phi id l U hl),λb C=>⟨(R.st b (h.st b C).1).1,((R.st b (h.st b C).1).2).trans (h.st b C).2⟩,λb C hs=>h.old b C (R.old b C hs),h.below.trans R.below⟩
def Evo.mono {k k' B:Nat} {φ φ':Phi} {S S':Nat->Prop} {w w':World} (h:Evo k B φ S w φ' S' w') (j:k'<=k):Evo k' B φ S w φ' S' w':=
 ⟨λid l hi hl=>h.phi id l oM hl,h.st,h.old,h.below⟩
def VRel.evo {k B:Nat} {φ φ':Phi} {S S':Nat->Prop} {w w':World} {H:List Mem} {p:PV} {v:Value} (j:VRel φ w S p v) (h:Evo k B φ S w φ' S' w') (hi:Inv φ H w S B) (C:H.length<=k):VRel φ' w' S' p v:=
 VRel.mono (λid l hl=>h.phi id l (by have:=(hi.live id l hl).2.2;omega) hl) h.st p v j
def VL.evo {k B:Nat} {φ φ':Phi} {S S':Nat->Prop} {w w':World} {H:List Mem} {p:List PV} {v:List Value} (j:VL φ w S p v) (h:Evo k B φ S w φ' S' w') (hi:Inv φ H w S B) (C:H.length<=k):VL φ' w' S' p v:=
 VL.mono (λid l hl=>h.phi id l (by have:=(hi.live id l hl).2.2;omega) hl) h.st p v j
variable [Laid]
section
variable {P:Program} {w:World}
def ZhJ {t:TypeId} {b:Bool} (h:ZAU P t=some b):(isAgg t).run P w= .ok b w:=by unfold ZAU at h;unfold isAgg;cases hu:P.underlying t with|none=>simp[hu]at h|some d=>simp[Sem.run_bind,run_underlying hu,Result.andThen_ok];cases d<;>simp_all
def ZaR {t:TypeId} {n:Nat} (h:Zbi P t=some n):(sizeOf t).run P w= .ok n w:=by unfold Zbi at h;cases hi:P.info? t with|none=>simp[hi]at h|some i=>simp[hi]at h;simp[sizeOf,typeInfo,hi,h]
def ZhM {α:Type}: ∀ (s:Sem α) (a:α),ZiW P s=some a-> ∀w,s.run P w= .ok a w
 | .pure a,b,h,w=>by simp[ZiW]at h;subst h;rfl
 | .program k,b,h,w=>by simp[ZiW]at h;exact ZhM (k P) b h w
 | .load ..,_,h,_| .store ..,_,h,_| .new ..,_,h,_| .shape ..,_,h,_| .freeze ..,_,h,_| .frozen ..,_,h,_| .getObj ..,_,h,_| .setObj ..,_,h,_| .choose ..,_,h,_| .sys ..,_,h,_| .mark ..,_,h,_| .halt ..,_,h,_=>by simp[ZiW]at h
def ZcA {α β:Type} (f:α->Option β):Za3 f []=some []:=rfl
def ZhI {α β:Type} (f:α->Option β) (a:α) (r:List α):Za3 f (a::r)=(f a).bind λb=>(Za3 f r).bind λs=>some (b::s):=rfl
def ZrE {α β j:Type} {x:Option α} {y:Option β} {f:α->β->Option j} {r:j} (h:(x.bind λa=>y.bind λb=>f a b)=some r): ∃a b,x=some a/\y=some b/\f a b=some r:=by
 cases x with
 |none=>simp at h
 |some a=>cases y with
  |none=>simp at h
  |some b=>exact⟨a,b,rfl,rfl,by simpa using h⟩
def ZHD {α j:Type} {x:Option α} {f:α->j} {r:j} (h:x.map f=some r): ∃a,x=some a/\f a=r:=by cases x with|none=>simp at h|some a=>exact⟨a,rfl,by simpa using h⟩
def Zam {α j:Type} {x:Option α} {f:α->Option j} {r:j} (h:x.bind f=some r): ∃a,x=some a/\f a=some r:=by cases x with|none=>simp at h|some a=>exact⟨a,rfl,by simpa using h⟩
def ZaM {α β:Type} {f:α->Option β} {a:α} {r:List α} {l:List β} (h:Za3 f (a::r)=some l): ∃b s,f a=some b/\Za3 f r=some s/\l=b::s:=by
 rw[ZhI]at h;cases j:f a with
 |none=>simp[j]at h
 |some b=>cases C:Za3 f r with
  |none=>simp[j,C]at h
  |some s=>simp[j,C]at h;exact⟨b,s,rfl,rfl,h.symm⟩
theorem Zfw {α β:Type} {f:α->Option β}: ∀ {r:List α} {l:List β},Za3 f r=some l->l.length=r.length
 | [],l,h=>by simp[ZcA]at h;simp[h]
 |a::r,l,h=>by obtain⟨b,s,_,j,rfl⟩:=ZaM h;simp[Zfw j]
def Znw {α β:Type} {f:α->Option β}: ∀ {r:List α} {l:List β},Za3 f r=some l-> ∀b∈l,∃a∈r,f a=some b
 | [],l,h,b,hb=>by simp[ZcA]at h;subst h;simp at hb
 |a::r,l,h,b,hb=>by obtain⟨c,s,C,I,rfl⟩:=ZaM h;rcases XaF.1 hb with rfl|hb;exact⟨a,Xah,C⟩;obtain⟨x,J,j⟩:=Znw I b hb;exact⟨x,Xai _ J,j⟩
variable {φ:Phi} {S:Nat->Prop} {B:Nat} {H:List Mem}
theorem ZjD {v:Value} {p:PV} (h:Zg5 v=some p):VRel φ w S p v/\ZcZ p=true:=by unfold Zg5 at h;split at h<;>first|(simp at h;subst h;exact⟨by simp[VRel],rfl⟩)|simp at h
theorem Zfp: ∀ {vs:List Value} {ps:List PV},Za3 Zg5 vs=some ps->VL φ w S ps vs/\ ∀c∈ps,ZcZ c=true
 | [],ps,h=>by simp[ZcA]at h;subst h;exact⟨by simp only[VL],sM⟩
 |v::vs,ps,h=>by obtain⟨b,s,j,C,rfl⟩:=ZaM h;(let⟨I,J⟩:=Zfp C);(let⟨R,U⟩:=ZjD (φ:=φ) (w:=w) (S:=S) j);refine⟨⟨v,vs,rfl,R,I⟩, ?_⟩;intro c hc;rcases XaF.1 hc with rfl|hc;exact U;exact J c hc
def ZlW {v:Value} {p:PV} (h:ZrD v=some p):VRel φ w S p v:=by
 unfold ZrD at h;split at h;rename_i cs;cases j:Za3 Zg5 cs.toList with|none=>simp[j]at h|some ps=>grind [Zfp,VRel]
 grind [ZjD]
def ZxF {p:PV} {v u:Value} (h:ZlN p=some v) (j:VRel φ w S p u):u=v:=by cases p<;>simp[ZlN]at h<;>simp[VRel]at j<;>rw[j,h]
def Zjh: ∀ {ps:List PV} {vs us:List Value},Za3 ZlN ps=some vs->VL φ w S ps us->us=vs
 | [],vs,us,h,j=>by simp[ZcA]at h;simp only[VL]at j;subst h;exact j
 |p::ps,vs,us,h,j=>by obtain⟨b,s,C,I,rfl⟩:=ZaM h;simp only[VL]at j;obtain⟨v,r,rfl,J,R⟩:=j;rw[ZxF C J,Zjh I R]
def TRel (φ:Phi) (w:World) (S:Nat->Prop) (N:Nat) (tm:List (Nat×PV)) (a:Act):Prop:=
 a.tmps.size=N/\a.defers=[]/\ ∀i p,get tm i=some p->i<N/\VRel φ w S p (a.tmps.getD i undef)
def ZnM (i:Nat):get [] i=none:=rfl
theorem ZcU (j:Nat) (v:PV) (r:List (Nat×PV)) (i:Nat):get ((j,v)::r) i=if i=j then some v else get r i:=by simp_all [Nat.beq,get,Xay]
def ZaD {tm:List (Nat×PV)} {a:Act} {N:Nat} (j:TRel φ w S N tm a) {x:Operand} {p:PV} (h:ev tm x=some p):VRel φ w S p (a.eval x):=by cases x with|tmp t=>exact(j.2.2 t p h).2|const v=>exact ZlW h|global g=>simp[ev]at h|func f=>simp[ev]at h;subst h;simp only[VRel,Act.eval];exact⟨#[], #[],rfl,by simp[VL],by simp[VL]⟩
def Zcw {tm:List (Nat×PV)} {a:Act} {N:Nat} (j:TRel φ w S N tm a): ∀ {xs:List Operand} {ps:List PV},Za3 (ev tm) xs=some ps->VL φ w S ps (xs.map a.eval)
 | [],ps,h=>by simp[ZcA]at h;subst h;simp only[VL,XbX]
 |x::xs,ps,h=>by obtain⟨b,s,C,I,rfl⟩:=ZaM h;exact⟨_,_,rfl,ZaD j C,Zcw j I⟩
def Zlf {α:Type} {c:Prop} [Decidable c] {x:Option α} {p:α} (h:(if c then none else x)=some p): ¬c/\x=some p:=by grind
def Zau {α:Type} {c:Prop} [Decidable c] {x:Option α} {p:α} (h:(if c then x else none)=some p):c/\x=some p:=by grind
def ZbG (k:IntKind) (n:Int):VRel φ w S (.int k n) (.int k n):=by simp[VRel]
def Zh8 (b:Bool):VRel φ w S (.bool b) (.bool b):=by simp[VRel]
def Zh0 (s:ByteArray):VRel φ w S (.str s) (.string s):=by simp[VRel]
def ZqZ {op:BinOp} {t:TypeId} {k k':IntKind} {a b:Int} {p:PV} (h:ZlA op k a k' b=some p): ∃u,(binOp op t (.int k a) (.int k' b)).run P w= .ok u w/\VRel φ w S p u:=by
 cases op<;>simp only[ZlA]at h<;>first
  |(let⟨C,j⟩:=Zau h;subst C;let⟨I,J⟩:=Zlf j;cases J;refine⟨_, ?_,ZbG _ _⟩;simp only[binOp,Op.intDiv,ne_eq,not_true_eq_false,if_false,I];rfl)
  |(let⟨C,j⟩:=Zau h;subst C;cases j;refine⟨_, ?_,ZbG _ _⟩;simp only[binOp,Op.intArith,Op.intBits,Op.intCmp,ne_eq,not_true_eq_false,if_false];rfl)
  |(let⟨C,j⟩:=Zau h;subst C;cases j;refine⟨_, ?_,Zh8 _⟩;simp only[binOp,Op.intArith,Op.intBits,Op.intCmp,ne_eq,not_true_eq_false,if_false];rfl)
  |(let⟨I,j⟩:=Zlf h;cases j;refine⟨_, ?_,ZbG _ _⟩;simp only[binOp,Op.shift,I,if_false];rfl)
def ZvV (k s:ByteArray):(k.data.toList==s.data.toList)=(k==s):=by cases k with|mk x=>cases s with|mk y=>show(x.toList==y.toList)=(x==y);simp_all
def Zqw {op:BinOp} {t:TypeId} {a b:ByteArray} {p:PV} (h:Zp1 op a b=some p): ∃u,(binOp op t (.string a) (.string b)).run P w= .ok u w/\VRel φ w S p u:=by
 simp only[Zp1,<-ByteArray.toList_eq]at h;cases op<;>simp only[]at h<;>first
  |(cases h;done)
  |(cases h;exact⟨_,rfl,Zh8 _⟩)
  |(let⟨hle,h⟩:=Zau h
    cases h
    refine⟨_, ?_,Zh0 _⟩
    have hm:IntKind.i64.max=9223372036854775807:=rfl
    show(if(a.size+b.size:Int)>IntKind.i64.max then _ else _:Sem Value).run P w=_
    rw[if_neg (by rw[hm];omega)]
    rfl)
def Zp0 {t:TypeId} (h:ZoH P t=true):P.underlying t=some .bool:=by grind [ZoH]
def Zhu {t:TypeId} (h:Zjy P t=true): ∃e,P.underlying t=some (.pointer e):=by grind [Zjy]
def Ze9 {t:TypeId} (h:Zdf P t=true): ∃e,P.underlying t=some (.slice e):=by grind [Zdf]
def ZbU {op:BinOp} {t:TypeId} {a b:Value} {r:Bool} {p:PV} (h:ZrR op r=some p) (C: ∀j:BinOp,(j= .eql\/j= .neq)->binOp j t a b=(match j with
 | .eql=>(do pure (.bool (<-Op.equal t a b)):Sem Value)|_=>(do pure (.bool (!(<-Op.equal t a b))):Sem Value))) (he:(Op.equal t a b).run P w= .ok r w): ∃u,(binOp op t a b).run P w= .ok u w/\VRel φ w S p u:=by unfold ZrR at h;split at h;simp at h;subst h;simp_all [VRel];simp at h;subst h;simp_all [VRel];simp at h
def ZaT {op t x y a b} (h: ∀cs ds,¬ (a= .agg cs/\b= .agg ds)) (j: ¬ (a= .nilIface/\b= .nilIface)):(eqGuard op t x y a b).run P w= .ok () w:=by
 cases op<;>first
  |rfl
  |(simp[eqGuard,Bool.not_true]
    simp_all)
def Zru {op:BinOp} {t:TypeId} {x y p:PV} {X Y:Operand} {a b:Value} (h:Ziz P op t x y=some p) (j:VRel φ w S x a) (C:VRel φ w S y b):
 ∃u,(do eqGuard op t X Y a b;binOp op t a b:Sem Value).run P w= .ok u w/\VRel φ w S p u:=by
 have guard:((eqGuard op t X Y a b).run P w= .ok () w)->(∃u,(binOp op t a b).run P w= .ok u w/\VRel φ w S p u)-> ∃u,(do eqGuard op t X Y a b;binOp op t a b:Sem Value).run P w= .ok u w/\VRel φ w S p u:=by rintro hg ⟨u,R,U⟩;exact⟨u,by simp[hg,R],U⟩
 unfold Ziz at h;split at h;simp only[VRel]at j C;subst j;subst C;exact guard (ZaT (by simp) (by simp)) (ZqZ h);simp only[VRel]at j C;subst j;subst C;exact guard (ZaT (by simp) (by simp)) (Zqw h);rename_i c d;simp only[VRel]at j C;subst j;subst C;split at h;rename_i J;have hu:=Zp0 J;refine guard (ZaT (by simp) (by simp)) (ZbU h ?_ ?_);rintro I (rfl|rfl)<;>rfl;show(Op.equalIn (9999+1) t _ _).run P w=_;rw[Op.equalIn];simp[run_underlying hu];simp at h;rename_i xs ys;simp only[VRel]at j C;obtain⟨ax,rfl,_,aa⟩:=j;obtain⟨ay,rfl,_,ab⟩:=C;cases he:ZB0 P t xs ys with
  |none=>simp[he]at h
  |some r=>
   simp[he]at h;unfold ZB0 at he;cases R:Za3 ZlN xs with
   |none=>simp[R]at he
   |some as=>
    cases U:Za3 ZlN ys with
    |none=>simp[R,U]at he
    |some bs=>
     simp[R,U]at he;obtain⟨hg,he⟩:=he;have e1:ax=as.toArray:=(by have:=Zjh R aa;rw[<-this]);have e2:ay=bs.toArray:=(by have:=Zjh U ab;rw[<-this]);subst e1;subst e2;refine guard ?_ (ZbU h ?_ (ZhM _ _ he w));cases op<;>first
       |rfl
       |(simp[eqGuard,hg])
     rintro I (rfl|rfl)<;>rfl
 simp only[VRel]at j C;subst j;subst C;split at h;rename_i J;obtain⟨e,hu⟩:=Ze9 J;refine guard (ZaT (by simp) (by simp)) (ZbU h ?_ ?_);rintro I (rfl|rfl)<;>rfl;show(Op.equalIn (9999+1) t _ _).run P w=_;rw[Op.equalIn];simp[run_underlying hu];simp at h;simp only[VRel]at j C;obtain⟨l,ad,c,_,rfl,_⟩:=j;subst C;split at h;rename_i J;obtain⟨e,hu⟩:=Ze9 J;refine guard (ZaT (by simp) (by simp)) (ZbU h ?_ ?_);rintro I (rfl|rfl)<;>rfl;show(Op.equalIn (9999+1) t _ _).run P w=_;rw[Op.equalIn];simp[run_underlying hu];simp at h;simp only[VRel,IRel]at j C;obtain⟨ad,c,rfl,_⟩:=j;subst C;split at h;rename_i J;obtain⟨e,hu⟩:=Ze9 J;refine guard (ZaT (by simp) (by simp)) (ZbU h ?_ ?_);rintro I (rfl|rfl)<;>rfl;show(Op.equalIn (9999+1) t _ _).run P w=_;rw[Op.equalIn];simp[run_underlying hu];simp at h;simp only[VRel]at j C;subst j;subst C;split at h;rename_i J;obtain⟨e,hu⟩:=Zhu J;refine guard (ZaT (by simp) (by simp)) (ZbU h ?_ ?_);rintro I (rfl|rfl)<;>rfl;show(Op.equalIn (9999+1) t _ _).run P w=_;rw[Op.equalIn];simp[run_underlying hu];simp at h;simp only[VRel]at j C;obtain⟨l,_,rfl⟩:=j;subst C;split at h;rename_i J;obtain⟨e,hu⟩:=Zhu J;refine guard (ZaT (by simp) (by simp)) (ZbU h ?_ ?_);rintro I (rfl|rfl)<;>rfl;show(Op.equalIn (9999+1) t _ _).run P w=_;rw[Op.equalIn];simp[run_underlying hu];simp at h;simp only[VRel,IRel]at j C;obtain⟨b,o,rfl,_⟩:=j;subst C;split at h;rename_i J;obtain⟨e,hu⟩:=Zhu J;refine guard (ZaT (by simp) (by simp)) (ZbU h ?_ ?_);rintro I (rfl|rfl)<;>rfl;show(Op.equalIn (9999+1) t _ _).run P w=_;rw[Op.equalIn];simp[run_underlying hu];simp at h;simp at h
def Zv9 {op t y u v p} (h:ZKq P op t u v=some p):Zsh P op t y u v=some p:=by unfold Zsh;rw[h]
def ZAa {op t y}:ZJb P op t y none=none:=by grind [ZJb]
def ZvK {op t x p X y a b} (h:ZJb P op t y (some x)=some p) (J:VRel φ w S x a) (U:y= .const .nilIface->b= .nilIface):
 ∃u,(do eqGuard op t X y a b;binOp op t a b:Sem Value).run P w= .ok u w/\VRel φ w S p u:=by
 have j: ∀r,(∀C,(C= .eql\/C= .neq)->binOp C t a .nilIface=(match C with
  | .eql=>(do pure (.bool (<-Op.equal t a .nilIface)):Sem Value)|_=>(do pure (.bool (!(<-Op.equal t a .nilIface))):Sem Value)))->(∀ms,P.underlying t=some (.interface ms)->(Op.equal t a .nilIface).run P w= .ok r w)->
  (eqGuard op t X (.const .nilIface) a .nilIface).run P w= .ok () w->(bif Zq0 P t then ZrR op r else none)=some p-> ∃u,(do eqGuard op t X (.const .nilIface) a .nilIface;binOp op t a .nilIface:Sem Value).run P w= .ok u w/\VRel φ w S p u:=by
  intro r h1 h2 hg R;cases hi:Zq0 P t with|false=>rw[hi]at R;cases R|true=>rw[hi,cond_true]at R;unfold Zq0 at hi;split at hi;rename_i ms hu;(let⟨u,h4,h5⟩:=ZbU (φ:=φ) (S:=S) R h1 (h2 ms hu));exact⟨u,by simp[hg,h4],h5⟩;cases hi
 unfold ZJb at h;split at h;rename_i I;cases I;rw[U rfl];simp[VRel]at J;subst J;refine j true ?_ ?_ ?_ h;rintro C (rfl|rfl)<;>rfl;intro ms hu;show(Op.equalIn (9999+1) t _ _).run P w=_;rw[Op.equalIn];simp[run_underlying hu];cases op<;>cases X<;>rfl;rename_i t' s I;cases I;rw[U rfl];simp[VRel]at J;subst J;refine j false ?_ ?_ ?_ h;rintro C (rfl|rfl)<;>rfl;intro ms hu;show(Op.equalIn (9999+1) t _ _).run P w=_;rw[Op.equalIn];simp[run_underlying hu];cases op<;>rfl;cases h
def ZwM {op x p a} (h:ZKk op x=some p) (j:VRel φ w S x a): ∃u,(Op.unary op a).run P w= .ok u w/\VRel φ w S p u:=by
 unfold ZKk at h;split at h<;>first
  |(simp at h;done)
  |(simp at h;subst h;simp[VRel]at j;subst j;exact⟨_,rfl,by simp[VRel]⟩)
end
variable [Laid]
section
variable {w:World} {S:Nat->Prop}
mutual
theorem VRel.toI: ∀ (p:PV) (v:Value),VRel (λ_=>none) w S p v->IRel w S p v
 | .bool _,_,h| .int _ _,_,h| .str _,_,h| .nilp,_,h| .nils,_,h| .nilf,_,h| .nilm,_,h| .nili,_,h| .ifc _ _,_,h=>by simpa only[VRel,IRel]using h
 | .ptr _ _ _,_,h=>by simp only[VRel]at h;obtain⟨l,h,_⟩:=h;cases h
 | .ref _ _ _ _,_,h=>by simp only[VRel]at h;obtain⟨l,a,c,h,_⟩:=h;cases h
 | .map _,_,h=>by simp only[VRel]at h;obtain⟨l,h,_⟩:=h;cases h
 | .lst es,v,h=>by simpa only[VRel]using h
 | .box cs r,v,h=>by simpa only[VRel]using h
 | .func f a c,v,h=>by simp only[VRel,IRel]at h|-;obtain⟨I,cs,j,C,J⟩:=h;exact⟨I,cs,j,VL.toI a _ C,VL.toI c _ J⟩
 | .agg cs,v,h=>by simp only[VRel,IRel]at h|-;obtain⟨arr,j,R,C⟩:=h;exact⟨arr,j,R,VL.toI cs _ C⟩
 | .tup cs,v,h=>by simp only[VRel,IRel]at h|-;obtain⟨arr,j,C⟩:=h;exact⟨arr,j,VL.toI cs _ C⟩
theorem VL.toI: ∀ (l:List PV) (vs:List Value),VL (λ_=>none) w S l vs->LRel w S l vs
 | [],_,h=>by simpa only[VL,LRel]using h
 |p::ps,vs,h=>by simp only[VL,LRel]at h|-;obtain⟨v,r,j,C,I⟩:=h;exact⟨v,r,j,VRel.toI p v C,VL.toI ps r I⟩
end
def VC.toI: ∀ (l:List PV) (b o:Nat),VC (λ_=>none) w S l b o->CsRel w S l b o
 | [],_,_,_=>by simp only[CsRel]
 |p::ps,b,o,h=>by obtain⟨⟨j,v,C,I⟩,J⟩:=h;simp only[CsRel];exact⟨⟨j,v,C,VRel.toI p v I⟩,VC.toI ps b (o+1) J⟩
theorem VE.toI: ∀ (l:List (List PV)) (b o:Nat),VE (λ_=>none) w S l b o->EsRel w S l b o
 | [],_,_,_=>by simp only[EsRel]
 |c::cs,b,o,h=>by simp only[EsRel];exact⟨VC.toI c b o h.1,VE.toI cs b _ h.2⟩
def EsRel.get {l:List (List PV)} {b o z i:Nat} {c:List PV} (j: ∀c∈l,c.length=z) (h:EsRel w S l b o) (hi:l[i]? =some c):CsRel w S c b (o+i*z):=
 VC.toI _ _ _ (VE.get j (EsRel.toV _ _ _ h) hi)
def EsRel.drop {l:List (List PV)} {b o z:Nat} (n:Nat) (C: ∀c∈l,c.length=z) (hn:n<=l.length) (h:EsRel w S l b o):EsRel w S (l.drop n) b (o+n*z):=by have j:=EsRel.toV (φ:=λ_=>none) _ _ _ h;rw[<-Xbc n l]at j;grind [VE.right,XaY,Xaz,XaU,VE.toI]
def EsRel.take {l:List (List PV)} {b o:Nat} (n:Nat) (h:EsRel w S l b o):EsRel w S (l.take n) b o:=by grind [EsRel.toV,Xbc,VE.toI,VE.left]
end
section
variable {P:Program} {w:World} {φ:Phi} {S:Nat->Prop} {B:Nat} {H:List Mem}
def VE.take {l:List (List PV)} {b o:Nat} (n:Nat) (h:VE φ w S l b o):VE φ w S (l.take n) b o:=by grind [Xbc,VE.left]
def VE.drop {l:List (List PV)} {b o z:Nat} (n:Nat) (j: ∀c∈l,c.length=z) (hn:n<=l.length) (h:VE φ w S l b o):VE φ w S (l.drop n) b (o+n*z):=by rw[<-Xbc n l]at h;grind [VE.right,XaY,Xaz,XaU]
def VC.take {l:List PV} {b o:Nat} (n:Nat) (h:VC φ w S l b o):VC φ w S (l.take n) b o:=by grind [Xbc,VC.left]
def VC.drop {l:List PV} {b o:Nat} (n:Nat) (hn:n<=l.length) (h:VC φ w S l b o):VC φ w S (l.drop n) b (o+n):=by rw[<-Xbc n l]at h;grind [VC.right,Xaz,XaU]
def Zww {t cs off p arr} (h:Zed P t cs off=some p) (ho: ∀c∈cs,ZcZ c=true) (J:VL φ w S cs arr.toList):
 ∃u,(part t arr off).run P w= .ok u w/\VRel φ w S p u:=by
 unfold Zed at h;split at h;rename_i j;cases hn:Zbi P t with|none=>simp[hn]at h|some n=>simp only[hn,Xad]at h;(let⟨hle,C⟩:=Zau h);cases C;refine⟨.agg (arr.extract off (off+n)),by simp[part,ZhJ j,ZaR hn],⟨_,rfl,λc R=>ho c (XbE (XaY R)), ?_⟩⟩;simp_all [List.drop_take,VL.take,VL.drop]
 rename_i j;let⟨v,I,C⟩:=VL.get J h
 exact⟨v,by simp[part,ZhJ j];simp at I;simp[I],C⟩;simp at h
def ZlC {t cs r b o p} (h:Zed P t cs r=some p) (R:VC φ w S cs b o):
 ∃u,(loadVar t ⟨b,o+r,none⟩).run P w= .ok u w/\VRel φ w S p u:=by
 unfold Zed at h;split at h;rename_i C;cases hn:Zbi P t with|none=>simp[hn]at h|some n=>simp only[hn,Xad]at h;(let⟨hle,I⟩:=Zau h);cases I;(let⟨vs,J,h3,U⟩:=VC.vals (VC.take n (VC.drop r oM R)));have hlen:vs.length=n:=(by rw[VL.length J,Xaz,XbC];omega);refine⟨.agg vs.toArray, ?_, ?_⟩;have:=run_loadCells_list (P:=P) w ⟨b,o+r,none⟩ vs (λj v hj=>by rw[Addr.add_lit];exact U j v hj);rw[hlen]at this;simp[loadVar,ZhJ C,ZaR hn,this];grind [VRel]
 rename_i C;let⟨_,v,J,I⟩:=VC.get R h
 exact⟨v,by simp[loadVar,ZhJ C,J],I⟩;simp at h
def ZjG {t x p a} (hI:Inv φ H w S B) (h:Zcf P H t x=some p) (R:VRel φ w S x a): ∃u,(Instr.loadAt t a).run P w= .ok u w/\VRel φ w S p u:=by
 unfold Zcf at h;split at h;rename_i id i r;split at h;rename_i es z m hm;cases j:es[i]? with|none=>simp[j]at h|some c=>simp[j,Xad]at h;obtain⟨l,hl,rfl⟩:=R;have C:=hI.row id l es z m hl hm;have:=VE.get C.wid C.cells j;rw[<-C.zs]at this;(let⟨u,I,J⟩:=ZlC h this);exact⟨u,by simpa[Instr.loadAt,Instr.sureAddr]using I,J⟩
 simp at h;rename_i c r;obtain⟨b,o,rfl,U,j⟩:=R;let⟨u,I,J⟩:=ZlC h (CsRel.toV (φ:=φ) _ _ _ j)
 exact⟨u,by simpa[Instr.loadAt,Instr.sureAddr]using I,J⟩;simp at h
def Zas {t d} (h:P.underlying t=some d):(underlying t).run P w= .ok d w:=run_underlying h w
def Zi4 {s x p f a} (h:Zc6 P s x f=some p) (I:VRel φ w S x a): ∃u,(Instr.fieldAt s a f).run P w= .ok u w/\VRel φ w S p u:=by
 unfold Zc6 at h;cases hf:fieldAt P s f with
 |none=>simp[hf]at h
 |some of=>
  (let⟨off,ft⟩:=of);simp[hf,Xad]at h;unfold fieldAt at hf;split at hf;rename_i U hu;cases C:U[f]? with
   |none=>simp[C]at hf
   |some fd=>
    simp[C]at hf;obtain⟨rfl,rfl⟩:=hf;split at h;simp at h;rename_i n J hn;have j: ∀b o,(fieldPlace ⟨b,o,none⟩ fd).run P w= .ok ⟨b,o+fd.offset,none⟩ w:=by intro b o;have R:n≠0:=(by rintro rfl;exact J rfl);simp[fieldPlace,ZaR hn,R,Addr.add_lit]
    split at h;rename_i id i r;cases h;simp[VRel]at I|-;obtain⟨l,hl,rfl⟩:=I;exact⟨_,by simp[Instr.fieldAt,Zas hu,C,Instr.sureAddr,j]<;>rfl,l,hl,sM⟩;rename_i cs r;cases h;simp[VRel,IRel]at I|-;obtain⟨b,o,rfl,hb,hc⟩:=I;exact⟨_,by simp[Instr.fieldAt,Zas hu,C,Instr.sureAddr,j]<;>rfl,b,o,sM,hb,hc⟩;simp at h;simp at h
  simp at hf
def ZoR {s:TypeId} {x p:PV} {f:Nat} {a:Value} (h:ZnV P s x f=some p) (j:VRel φ w S x a): ∃u,(Instr.field s a f).run P w= .ok u w/\VRel φ w S p u:=by
 unfold ZnV at h;cases hf:fieldAt P s f with
 |none=>simp[hf]at h
 |some of=>
  (let⟨off,ft⟩:=of);simp only[hf,Option.bind_some]at h;unfold fieldAt at hf;split at hf
  ·rename_i fs hu;cases C:fs[f]? with
   |none=>simp[C]at hf
   |some fd=>
    simp[C]at hf;obtain⟨rfl,rfl⟩:=hf;split at h
    ·rename_i cs;simp only[VRel]at j;obtain⟨arr,rfl,ho,hv⟩:=j;obtain⟨u,h1,h2⟩:=Zww h ho hv;exact⟨u,by simp[Instr.field,Zas hu,C,asAgg,h1],h2⟩
    ·simp at h
  ·simp at hf
def Zi3 {t x ix p a j} (hI:Inv φ H w S B) (h:Zar P H t x ix=some p) (I:VRel φ w S x a) (hj:VRel φ w S ix j):
 ∃u,(Instr.indexAt t a j).run P w= .ok u w/\VRel φ w S p u:=by
 unfold Zar at h;split at h;rename_i k U;simp[VRel]at hj;subst hj;split at h;rename_i e es hu;cases C:Zbi P e with|none=>simp[C]at h|some z=>simp only[C,Xad]at h;(let⟨J,h⟩:=Zau h);cases hc:es[U.toNat]? with|none=>simp[hc]at h|some c=>simp only[hc,Xad]at h;(let⟨aa,h⟩:=Zau h);cases h;simp only[VRel,IRel]at I|-;obtain⟨ad,cp,rfl,hle,I⟩:=I;rcases I with rfl|⟨b,o,z',rfl,hS,hw,he⟩;simp at J;omega;have R:z'=z:=(by rw[<-hw c (XaC hc)];exact aa);subst R;refine⟨.pointer (some ⟨b,o+U.toNat*z',none⟩), ?_,b,o+U.toNat*z',sM,hS,EsRel.get hw he hc⟩;simp[Instr.indexAt,asIntOf,Zas hu,J,ZaR C,Addr.add_lit]
 rename_i e id i n room hu;cases C:Zbi P e with|none=>simp[C]at h|some z=>simp only[C,Xad]at h;(let⟨J,h⟩:=Zau h);split at h;rename_i es z' m hm;(let⟨R,h⟩:=Zau h);cases h;simp only[VRel]at I|-;obtain⟨l,ad,cp,hl,rfl,ae,hle,I⟩:=I;have hr:=hI.row id l es z' m hl hm;have ab:=hr.zs.trans R;rcases I with⟨h0,_⟩|⟨rfl,_⟩;omega;refine⟨.pointer (some ⟨l.b,l.o+i*l.z+U.toNat*z,none⟩), ?_,l,hl, ?_⟩;simp[Instr.indexAt,asIntOf,Zas hu,J,ZaR C,Addr.add_lit];rw[ab,Xbs];simp[XbL];simp at h
 rename_i n e id i r hu;cases C:Zbi P e with|none=>simp[C]at h|some z=>simp only[C,Xad]at h;(let⟨J,h⟩:=Zau h);cases h;simp[VRel]at I|-;obtain⟨l,hl,rfl⟩:=I;refine⟨.pointer (some ⟨l.b,l.o+i*l.z+r+U.toNat*z,none⟩), ?_,l,hl,by simp[XbL]⟩;simp[Instr.indexAt,asIntOf,Zas hu,J,ZaR C,Addr.add_lit,Instr.sureAddr]
 rename_i n e cs r hu;cases C:Zbi P e with|none=>simp[C]at h|some z=>simp only[C,Xad]at h;(let⟨J,h⟩:=Zau h);cases h;simp only[VRel,IRel]at I|-;obtain⟨b,o,rfl,hS,hc⟩:=I;refine⟨.pointer (some ⟨b,o+r+U.toNat*z,none⟩), ?_,b,o,by simp[XbL],hS,hc⟩;simp[Instr.indexAt,asIntOf,Zas hu,J,ZaR C,Addr.add_lit,Instr.sureAddr]
 simp at h;simp at h
def ZoD {t x ix p a j} (h:ZiM P t x ix=some p) (R:VRel φ w S x a) (hj:VRel φ w S ix j):
 ∃u,(Instr.index t a j).run P w= .ok u w/\VRel φ w S p u:=by
 unfold ZiM at h;split at h;rename_i k C;simp[VRel]at hj;subst hj;split at h;rename_i n e cs hu;cases U:Zbi P e with|none=>simp[U]at h|some z=>simp only[U,Xad]at h;(let⟨hb,h⟩:=Zau h);simp[VRel]at R;obtain⟨arr,rfl,ho,hv⟩:=R;(let⟨u,h1,h2⟩:=Zww h ho hv);exact⟨u,by simp[Instr.index,asIntOf,Zas hu,hb,ZaR U,h1],h2⟩
 rename_i s hu;let⟨hb,h⟩:=Zau h
 simp[VRel]at R;subst R;cases hc:s.data.toList[C.toNat]? with|none=>simp[hc]at h|some b=>simp[hc,Xau]at h;subst h;have hs:s[C.toNat]? =some b:=(by have:=Xaf.1 hc;(let⟨I,aa⟩:=this);have J:C.toNat<s.size:=(by simpa using I);rw[getElem?_pos s C.toNat J];have ab:s.data[C.toNat]'(by simpa using I)=b:=(by simpa using aa);exact congrArg some ab);exact⟨_,by simp[Instr.index,asIntOf,Zas hu,hb,hs]<;>rfl,ZbG _ _⟩
 simp at h;simp at h
def Zsu {ts ty t x p a} (hI:Inv φ H w S B) (I:ts[0]? =some t) (h:ZeW P H t x=some p) (j:VRel φ w S x a):
 ∃u,(Builtin.len_ ts ty #[a]).run P w= .ok u w/\VRel φ w S p u:=by
 unfold ZeW at h;split at h;rename_i s hu;cases h;simp[VRel]at j;subst j;exact⟨_,by simp[Builtin.len_,I,Zas hu]<;>rfl,ZbG _ _⟩;rename_i n e hu;cases h;exact⟨_,by simp[Builtin.len_,I,Zas hu]<;>rfl,ZbG _ _⟩;rename_i e hu;cases h;simp[VRel]at j;subst j;exact⟨_,by simp[Builtin.len_,I,Zas hu]<;>rfl,ZbG _ _⟩;rename_i e es hu;cases h;simp[VRel,IRel]at j;obtain⟨U,c,rfl,_⟩:=j;exact⟨_,by simp[Builtin.len_,I,Zas hu]<;>rfl,ZbG _ _⟩;rename_i e id i n hu;cases h;simp[VRel]at j;obtain⟨l,U,c,_,rfl,_⟩:=j;exact⟨_,by simp[Builtin.len_,I,Zas hu]<;>rfl,ZbG _ _⟩;rename_i k e hu;cases h;simp[VRel]at j;subst j;exact⟨_,by simp[Builtin.len_,I,Zas hu]<;>rfl,ZbG _ _⟩;rename_i k e id hu;split at h;rename_i es hm;cases h;simp[VRel]at j;obtain⟨l,hl,rfl⟩:=j;let⟨_,C,clock,R,J,_⟩:=hI.map id l es hl hm
 have hlen:C.toList.length=es.length:=by clear R hm;generalize C.toList=el at J;induction es generalizing el with|nil=>simp[VM]at J;simp[J]|cons x r ih=>(let⟨k,v⟩:=x);obtain⟨e,l',rfl,_,_,h4⟩:=J;simp[ih _ h4]
 refine⟨.int .i64 C.size, ?_,by simp[VRel];rw[<-hlen];simp⟩;simp[Builtin.len_,I,Zas hu,getObj,Sem.run,R,goInt];simp at h;simp at h
def Zn8 {x p a i} (h:Zfa (some x) i=some p) (j:VRel φ w S x a): ∃u,(Instr.extract a i).run P w= .ok u w/\VRel φ w S p u:=by
 unfold Zfa at h;simp at h;split at h;simp[VRel]at j;obtain⟨arr,rfl,I⟩:=j;let⟨v,C,J⟩:=VL.get I h
 simp at C;exact⟨v,by simp[Instr.extract,C],J⟩;simp at h
end
variable [Laid]
section
variable {P:Program} {w:World} {φ:Phi} {S:Nat->Prop} {B:Nat} {H:List Mem}
def Zkn (φ:Phi) (w:World) (S:Nat->Prop):Option PV->Option Value->Prop
 |none,v=>v=none
 |some p,v=> ∃u,v=some u/\VRel φ w S p u
def ZAC {n c x hi I} {isS:Bool} (C:bHi n hi=some x) (U:n<=c) (J:Zkn φ w S hi I):
 x<=n/\(match I with|some v=>Instr.sliceBound v c (if isS then .sliceAcap else .sliceAlen)|none=>pure n:Sem Nat).run P w= .ok x w:=by
 unfold bHi at C;split at C;cases C;simp[Zkn]at J;subst J;exact⟨Xae _,rfl⟩;rename_i k j;let⟨R,C⟩:=Zau C
 cases C;obtain⟨u,rfl,rfl⟩:=J;refine⟨oM, ?_⟩;have:0<=j/\j<=(c:Int):=⟨R.1,oM⟩;simp[Instr.sliceBound,asIntOf,this];cases C
def Ziq {x y lo I} (C:bLo x lo=some y) (hl:Zkn φ w S lo I):
 y<=x/\(match I with|some v=>Instr.sliceBound v x .sliceB|none=>pure 0:Sem Nat).run P w= .ok y w:=by
 unfold bLo at C;split at C;cases C;simp[Zkn]at hl;subst hl;exact⟨Xak _,rfl⟩;rename_i k j;let⟨J,C⟩:=Zau C
 cases C;obtain⟨u,rfl,rfl⟩:=hl;refine⟨oM, ?_⟩;simp[Instr.sliceBound,asIntOf,J];cases C
def Zp5 {n c lo hi I J l h isS} (R:Zgr n lo hi=some (l,h)) (hc:n<=c) (hl:Zkn φ w S lo I) (hh:Zkn φ w S hi J):
 (Instr.sliceBounds isS n c I J none).run P w= .ok (l,h,c) w/\l<=h/\h<=n:=by unfold Zgr at R;cases U:bHi n hi with|none=>simp[U]at R|some x=>simp[U,Xad]at R;cases hy:bLo x lo with|none=>simp[hy]at R|some y=>simp[hy,Xad]at R;obtain⟨rfl,rfl⟩:=R;(let⟨aa,C⟩:=ZAC (P:=P) (isS:=isS) U hc hh);(let⟨ab,j⟩:=Ziq (P:=P) hy hl);refine⟨?_,ab,aa⟩;cases J with|none=>(have e1:x=n:=(by simp at C;exact C.symm);subst e1;cases I with|none=>have e2:y=0:=(by simp at j;exact j.symm);subst e2;simp[Instr.sliceBounds]|some lv=>simp at j;simp[Instr.sliceBounds,j])|some hv=>cases I with|none=>have e2:y=0:=(by simp at j;exact j.symm);subst e2;simp[Instr.sliceBounds,C]|some lv=>simp at j;simp[Instr.sliceBounds,C,j]
def Zfv {n m c lo hi mx ab ad ae l h x} (hb:ZcR n m lo hi mx=some (l,h,x)) (hn:n<=m) (hc:m<=c) (hl:Zkn φ w S lo ab) (hh:Zkn φ w S hi ad) (hm:Zkn φ w S mx ae):
 ∃X,(Instr.sliceBounds true n c ab ad ae).run P w= .ok (l,h,X) w/\l<=h/\h<=x/\x<=m/\x<=X/\X<=c:=by
 unfold ZcR at hb;split at hb;cases hb;rename_i af;have ag:mx.isSome=true->hi.isNone=true->False:=by intro a b;apply af;simp[a,b]
 clear af;let⟨h0,I,ah⟩:=Zam hb
 let⟨l0,C,ai⟩:=Zam ah
 let⟨x0,U,aj⟩:=Zam ai
 simp[Prod.mk.injEq]at aj;clear hb ah ai;obtain⟨rfl,rfl,rfl⟩:=aj;let⟨aa,_⟩:=Ziq (P:=P) C hl
 cases mx with|none=>(simp[Zkn]at hm;subst hm;simp[bMx,Xaj]at U;subst U;cases hi with|none=>(simp[ZEP,Xaj]at I;subst I;simp[Zkn]at hh;subst hh;refine⟨c, ?_,aa,hn,Xae _,hc,Xae _⟩;cases lo with|none=>simp[bLo,Xaj]at C;subst C;simp[Zkn]at hl;subst hl;simp[Instr.sliceBounds]|some lv=>have h2:=(Ziq (P:=P) C hl).2;obtain⟨u,rfl,_⟩:=hl;simp at h2;simp[Instr.sliceBounds,h2])|some hv=>(cases hv<;>simp only[ZEP]at I<;>try (cases I;done));rename_i k j;(let⟨hj,I⟩:=Zau I);cases I;simp[Zkn,VRel]at hh;obtain⟨u,rfl,rfl⟩:=hh;have J:0<=j/\j<=(c:Int):=⟨hj.1,oM⟩;have al:j.toNat<=m:=oM;have R:(Instr.sliceBound (.int k j) c .sliceAcap).run P w= .ok j.toNat w:=(by simp[Instr.sliceBound,asIntOf,J]);refine⟨c, ?_,aa,al,Xae _,hc,Xae _⟩;cases lo with|none=>simp[bLo,Xaj]at C;subst C;simp[Zkn]at hl;subst hl;simp[Instr.sliceBounds,Instr.sliceBound,asIntOf,J]|some lv=>have h2:=(Ziq (P:=P) C hl).2;obtain⟨u,rfl,_⟩:=hl;simp[]at h2;simp[Instr.sliceBounds,R,h2])|some mv=>(cases mv<;>simp only[bMx]at U<;>try (cases U;done));rename_i k j;(let⟨hj,U⟩:=Zau U);cases U;simp[Zkn,VRel]at hm;obtain⟨u,rfl,rfl⟩:=hm;have J:0<=j/\j<=(c:Int):=⟨oM,oM⟩;cases hi with|none=>exact(ag rfl rfl).elim|some hv=>(cases hv<;>simp only[ZEP]at I<;>try (cases I;done));rename_i k' j';(let⟨an,I⟩:=Zau I);cases I;simp[Zkn,VRel]at hh;obtain⟨u,rfl,rfl⟩:=hh;have ao:0<=j'/\j'<=(j.toNat:Int):=⟨an.1,oM⟩;have R:(Instr.sliceBound (.int k j) c .slice3Acap).run P w= .ok j.toNat w:=(by simp[Instr.sliceBound,asIntOf,J]);have ak:(Instr.sliceBound (.int k' j') j.toNat .slice3B).run P w= .ok j'.toNat w:=(by rw[Instr.sliceBound];simp only[asIntOf];simp[-Int.ofNat_toNat,ao]);refine⟨j.toNat, ?_,aa,oM,oM,Xae _,oM⟩;cases lo with|none=>simp[bLo,Xaj]at C;subst C;simp[Zkn]at hl;subst hl;simp[Instr.sliceBounds,R,ak]|some lv=>(cases lv<;>simp only[bLo]at C<;>try (cases C;done));rename_i k2 j2;(let⟨aq,C⟩:=Zau C);cases C;simp[Zkn,VRel]at hl;obtain⟨u,rfl,rfl⟩:=hl;simp[Instr.sliceBounds,R,ak];simp[Instr.sliceBound,asIntOf];omega
def ZnB {t x p lo hi mx a aa ab ae} (hI:Inv φ H w S B) (h:ZcE P H t x lo hi mx=some p) (j:VRel φ w S x a)
 (hl:Zkn φ w S lo aa) (hh:Zkn φ w S hi ab) (hm:Zkn φ w S mx ae): ∃u,(Instr.sliceAt t a aa ab ae).run P w= .ok u w/\VRel φ w S p u:=by
 unfold ZcE at h;split at h;rename_i s hu;split at h;simp[Zkn]at hm;subst hm;simp[VRel]at j;subst j;cases C:Zgr s.size lo hi with|none=>simp[C]at h|some lh=>(let⟨l,k⟩:=lh);simp[C,Xau,Xaj]at h;subst h;(let⟨J,_⟩:=Zp5 (P:=P) (isS:=false) C (Xae _) hl hh);exact⟨_,by simp[Instr.sliceAt,Instr.slice,Zas hu,J]<;>rfl,Zh0 _⟩
 cases h;rename_i e es hu;let⟨z,hz,h⟩:=Zam h
 let⟨⟨l,k,x⟩,C,h⟩:=Zam h
 let⟨af,h⟩:=Zau h
 cases h;simp only[VRel,IRel]at j|-;obtain⟨I,c,rfl,hle,j⟩:=j;let⟨X,J,h1,h2,h3,h4,h5⟩:=Zfv (P:=P) C (Xae _) hle hl hh hm
 have hlen:((es.take k).drop l).length=k-l:=by simp[XbC,Xaz];omega
 refine⟨.slice (some (if X=l then I else I.add (l*z))) (k-l) (X-l), ?_,(if X=l then I else I.add (l*z)),X-l,by rw[hlen],by rw[hlen];omega, ?_⟩;simp[Instr.sliceAt,Instr.slice,Zas hu,J,ZaR hz];try (split<;>rfl)
 by_cases R:X=l;left;have:k-l=0:=oM;exact Xbv.1 oM;rcases j with rfl|⟨b,o,z',rfl,hS,hw,he⟩;left;simp;right;have U:l=0\/z'=z:=by cases es with|nil=>left;simp at h3;omega|cons c0 r=>right;simp[Zge,beq_iff_eq]at af;rw[<-hw c0 Xah,af]
 refine⟨b,o+l*z',z', ?_,hS,λx j=>hw x (XaY (XbE j)), ?_⟩;rw[if_neg R];simp[Addr.add_lit];rcases U with rfl|rfl<;>simp;exact EsRel.drop l (λc hc=>hw c (XaY hc)) (by rw[Xaz];omega) (EsRel.take k he);rename_i e id i n room hu;let⟨z,hz,h⟩:=Zam h
 let⟨⟨l,k,x⟩,C,h⟩:=Zam h
 simp only at h;split at h;rename_i es z' m al;let⟨U,h⟩:=Zau h
 cases h;simp only[VRel]at j|-;obtain⟨lc,I,c,ag,rfl,ah,hle,j⟩:=j;let⟨X,J,h1,h2,h3,h4,h5⟩:=Zfv (P:=P) C ah hle hl hh hm
 have ai:=hI.row id lc es z' m ag al;have an:=ai.zs.trans U;refine⟨.slice (some (if X=l then I else I.add (l*z))) (k-l) (X-l), ?_,lc,(if X=l then I else I.add (l*z)),X-l,ag,rfl,oM,oM, ?_⟩;simp[Instr.sliceAt,Instr.slice,Zas hu,J,ZaR hz];split<;>rfl;by_cases R:X=l;left;omega;rcases j with⟨h0,ao⟩|⟨rfl,aj⟩;omega;right;refine⟨?_, ?_⟩;rw[if_neg R,Addr.add_lit,an,Xbs];simp[XbL];have ak:(i+l+(X-l))<=i+c:=oM;exact XaK (Xbk _ ak) aj;cases h;rename_i e hu;simp[VRel]at j;subst j;let⟨z,hz,h⟩:=Zam h
 let⟨⟨l,k,x⟩,C,h⟩:=ZHD h
 subst h;let⟨X,J,h1,h2,h3,h4,h5⟩:=Zfv (P:=P) C (Xae _) (Xae _) hl hh hm
 have e1:k=0:=oM;have e2:l=0:=oM;have e3:X=0:=oM;subst e1;subst e2;subst e3;refine⟨.slice none 0 0, ?_,by simp[VRel]⟩;simp[Instr.sliceAt,Instr.slice,Zas hu,J,ZaR hz];cases h
theorem Zou {w w':World} {b} (h:w'.heap[b]? =w.heap[b]?) o:w'.frozen? ⟨b,o,none⟩=w.frozen? ⟨b,o,none⟩:=by simp[World.frozen?,h]
def RowAt.mono {φ' w' S' l es z m} (h:RowAt φ w S l es z m) (hp: ∀id l,φ id=some l->φ' id=some l) (I: ∀b,S b->S' b/\w'.heap[b]? =w.heap[b]?)
 (J:w'.heap[l.b]? =w.heap[l.b]?) (j:S' l.b->S l.b):RowAt φ' w' S' l es z m where
 zs:=h.zs
 top:=h.top
 wid:=h.wid
 cells:=VE.mono hp I _ _ _ J h.cells
 blk:=by(let⟨cur,e,fz,R,U,h3⟩:=h.blk);grind [Zou]
 own:=λhm C=>h.own hm (j C)
 frz:=λhm=>(I _ (h.frz hm)).1
def Inv.ext {w' S'} (hI:Inv φ H w S B) (C:Below w.heap.size w w') (hS: ∀b,S b->S' b) (R: ∀b,S' b->b<w'.heap.size) (j: ∀b,b<w.heap.size->S' b->S b):Inv φ H w' S' B/\Evo H.length B φ S w φ S' w':=by
 have J: ∀b,S b->S' b/\w'.heap[b]? =w.heap[b]? :=λb h=>⟨hS b h,C.block b (hI.stable b h)⟩
 refine⟨⟨?_, ?_, ?_,hI.apart,R,XaK hI.base C.size,Laid.mono _ _ _ _ J hI.laid⟩,λ_ _ _ h=>h,J,λb U h=>j b (XaW U hI.base) h,C.mono hI.base⟩;intro id l h;have:=hI.live id l h;exact⟨this.1,XaW this.2.1 C.size,this.2.2⟩;intro id l es z m h h2;exact(hI.row id l es z m h h2).mono (λ_ _ h=>h) J (C.block _ (hI.live id l h).2.1) (j _ (hI.live id l h).2.1);intro id l es h h2;let⟨h3,I,clock,h4,h5⟩:=hI.map id l es h h2
 exact⟨λhx=>h3 (j _ (hI.live id l h).2.1 hx),I,clock,by rw[C.block _ (hI.live id l h).2.1];exact h4,VMc.mono (λ_ _ h=>h) J h5⟩
def Inv.foreign {w'} (hI:Inv φ H w S B) (j:Below w.heap.size w w'):Inv φ H w' (λb=>S b\/(w.heap.size<=b/\b<w'.heap.size)) B/\Evo H.length B φ S w φ (λb=>S b\/(w.heap.size<=b/\b<w'.heap.size)) w':=
 hI.ext j (λb h=> .inl h) (λb h=>h.elim (λh=>XaW (hI.stable b h) j.size) (λh=>h.2)) (λb C h=>h.elim id (λh=>oM))
def Inv.add {w' id es z m0 cur e fz vs} (hI:Inv φ H w S B) (R:Below w.heap.size w w') (an:φ id=none) (hH:H[id]? =some (.row es z m0))
 (I:w'.heap[w.heap.size]? =some (.cells cur e fz)) (ab: ∀c∈es,c.length=z) (hv:VL φ w S es.flatten vs) (h1: ∀c∈es.flatten,ZcZ c=true) (ad: ∀ (j:Nat) (v:Value),vs[j]? =some v->cur[j]? =some v)
 (ae:es.length*z<=cur.size) (ai: ∀j,j<cur.size-> ¬ (fz.1<=j/\j<fz.2)):
 ∃φ' S',Inv φ' H w' S' B/\Evo H.length B φ S w φ' S' w'/\φ' id=some ⟨w.heap.size,0,z,cur.size⟩/\(∀i,i≠id->φ' i=φ i):=by
 have af:w.heap.size<w'.heap.size:=by grind
 have U:=(Xaf.1 hH).1;let φ':Phi:=λi=>if i=id then some ⟨w.heap.size,0,z,cur.size⟩else φ i
 let S':Nat->Prop:=λb=>S b\/(m0=false/\b=w.heap.size)
 have hp: ∀i l,φ i=some l->φ' i=some l:=by grind
 have hs: ∀b,S b->S' b/\w'.heap[b]? =w.heap[b]? :=λb h=>⟨.inl h,R.block b (hI.stable b h)⟩
 have aa: ∀b,b<w.heap.size->S' b->S b:=by grind
 have hid:φ' id=some ⟨w.heap.size,0,z,cur.size⟩:=if_pos rfl;have C: ∀i,i≠id->φ' i=φ i:=λi h=>if_neg h
 refine⟨φ',S',⟨?_, ?_, ?_, ?_, ?_,XaK hI.base R.size,Laid.mono _ _ _ _ hs hI.laid⟩,⟨λi l _ h=>hp i l h,hs,λb aj h=>aa b (XaW aj hI.base) h,R.mono hI.base⟩,hid,C⟩;intro i l h;by_cases hi:i=id;subst hi;rw[hid]at h;cases h;exact⟨hI.base,af,U⟩;rw[C i hi]at h;have:=hI.live i l h;exact⟨this.1,XaW this.2.1 R.size,this.2.2⟩;intro i l es' z' m h h2;by_cases hi:i=id;subst hi;rw[hid]at h;cases h;rw[hH]at h2;cases h2;refine⟨rfl,ae,ab, ?_,⟨cur,e,fz,I,sM, ?_⟩, ?_, ?_⟩;refine VE.of_flat (VC.of_vals (VL.mono hp hs _ _ hv) h1 ?_);intro j v hj;have hc:=ad j v hj;simp[World.cell?,I,hc];intro _ j hj;have:=ai j hj;simp[World.frozen?,I];omega;rintro hm (ak|⟨J,_⟩);have:=hI.stable _ ak;simp at this;rw[hm]at J;cases J;intro hm;exact .inr ⟨hm,rfl⟩;rw[C i hi]at h;exact(hI.row i l es' z' m h h2).mono hp hs (R.block _ (hI.live i l h).2.1) (aa _ (hI.live i l h).2.1);intro i l es' h h2;by_cases hi:i=id;subst hi;rw[hH]at h2;cases h2;rw[C i hi]at h;let⟨h3,ag,clock,h4,h5⟩:=hI.map i l es' h h2
 exact⟨λhx=>h3 (aa _ (hI.live i l h).2.1 hx),ag,clock,by rw[R.block _ (hI.live i l h).2.1];exact h4,VMc.mono hp hs h5⟩;intro i j l l' m m' ah h h' hm J ha al;by_cases hi:i=id;subst hi;rw[hid]at h;cases h;rw[C j (λe=>ah e.symm)]at h';have:=(hI.live j l' h').2.1;show w.heap.size≠l'.b;omega;by_cases hj:j=id;subst hj;rw[hid]at h';cases h';rw[C i hi]at h;have:=(hI.live i l h).2.1;show l.b≠w.heap.size;omega;rw[C i hi]at h;rw[C j hj]at h';exact hI.apart i j l l' m m' ah h h' hm J ha al;rintro b (h|⟨_,rfl⟩);exact XaW (hI.stable b h) R.size;exact af
def Inv.addMap {w' id clock} (hI:Inv φ H w S B) (J:Below w.heap.size w w') (ag:φ id=none) (hH:H[id]? =some (.map []))
 (U:w'.heap[w.heap.size]? =some (.map #[] clock)):
 ∃φ' S',Inv φ' H w' S' B/\Evo H.length B φ S w φ' S' w'/\φ' id=some ⟨w.heap.size,0,0,0⟩/\(∀i,i≠id->φ' i=φ i):=by
 have ad:w.heap.size<w'.heap.size:=by grind
 have I:=(Xaf.1 hH).1;let φ':Phi:=λi=>if i=id then some ⟨w.heap.size,0,0,0⟩else φ i
 have hp: ∀i l,φ i=some l->φ' i=some l:=by grind
 have hs: ∀b,S b->S b/\w'.heap[b]? =w.heap[b]? :=λb h=>⟨h,J.block b (hI.stable b h)⟩
 have hid:φ' id=some ⟨w.heap.size,0,0,0⟩:=if_pos rfl;have C: ∀i,i≠id->φ' i=φ i:=λi h=>if_neg h
 refine⟨φ',S,⟨?_, ?_, ?_, ?_, ?_,XaK hI.base J.size,Laid.mono _ _ _ _ hs hI.laid⟩,⟨λi l _ h=>hp i l h,hs,λ_ _ h=>h,J.mono hI.base⟩,hid,C⟩;intro i l h;by_cases hi:i=id;subst hi;rw[hid]at h;cases h;exact⟨hI.base,ad,I⟩;rw[C i hi]at h;have:=hI.live i l h;omega;intro i l es' z' m h h2;by_cases hi:i=id;grind;rw[C i hi]at h;exact(hI.row i l es' z' m h h2).mono hp hs (J.block _ (hI.live i l h).2.1) λx=>x;intro i l es' h h2;by_cases hi:i=id;subst hi;rw[hid]at h;cases h;rw[hH]at h2;cases h2;exact⟨λhx=>by have:=hI.stable _ hx;simp at this, #[],clock,U,rfl,λe he=>by simp at he,sM⟩;rw[C i hi]at h;let⟨h3,aa,clock,h4,h5⟩:=hI.map i l es' h h2
 exact⟨h3,aa,clock,by rw[J.block _ (hI.live i l h).2.1];exact h4,VMc.mono hp hs h5⟩;intro i j l l' m m' ab h R hm ae ha af;by_cases hi:i=id;subst hi;rw[hid]at h;cases h;rw[C j (λe=>ab e.symm)]at R;have:=(hI.live j l' R).2.1;show w.heap.size≠l'.b;omega;by_cases hj:j=id;subst hj;rw[hid]at R;cases R;rw[C i hi]at h;have:=(hI.live i l h).2.1;show l.b≠w.heap.size;omega;rw[C i hi]at h;rw[C j hj]at R;exact hI.apart i j l l' m m' ab h R hm ae ha af;exact λb h=>XaW (hI.stable b h) J.size
def Zlb w o:Below w.heap.size w (w.alloc o):=(Below.refl _ _).alloc (Xae _) o
def ZfI w o:Below w.heap.size w (w.drew.alloc o):=((Below.refl _ _).drew).alloc (Xae _) o
def ZhX (w:World) o:(w.alloc o).heap[w.heap.size]? =some o:=heap_alloc_new w o
def Zem (w:World) o:(w.drew.alloc o).heap[w.heap.size]? =some o:=heap_alloc_new w.drew o
end
variable [Laid]
section
variable {P:Program} {w:World} {φ:Phi} {S:Nat->Prop} {B:Nat} {H:List Mem}
def ZlT {x:PV} {es:List (List PV)} {v:Value} (hI:Inv φ H w S B) (h:elems H x=some es) (j:VRel φ w S x v):
 ∃a c,v= .slice a es.length c/\es.length<=c/\(es=[]\/ ∃b o z,a=some ⟨b,o,none⟩/\(∀c∈es,c.length=z)/\VE φ w S es b o):=by
 unfold elems at h;split at h;simp_all [VRel,Xae];cases h;simp only[VRel,IRel]at j;obtain⟨a,c,rfl,hle,j⟩:=j;refine⟨a,c,rfl,hle, ?_⟩;rcases j with j|⟨b,o,z,ha,_,hw,he⟩;exact .inl j;exact .inr ⟨b,o,z,congrArg some ha,hw,EsRel.toV _ _ _ he⟩;rename_i id i n room;split at h;rename_i C z m hm;let⟨hle,h⟩:=Zau h
 cases h;simp only[VRel]at j;obtain⟨l,ad,c,hl,rfl,J,R,j⟩:=j;have U:=XaK J R;have hlen:((C.drop i).take n).length=n:=by rw[Xaz,XbC];omega
 refine⟨some ad,c,by rw[hlen],by rw[hlen];exact U, ?_⟩;have I:=hI.row id l C z m hl hm;rcases j with⟨h0,_⟩|⟨rfl,_⟩;grind;right;refine⟨l.b,l.o+i*l.z,z,rfl,λc hc=>I.wid c (XbE (XaY hc)), ?_⟩;rw[I.zs];exact VE.take n (VE.drop i I.wid oM I.cells);cases h;cases h
def ZjO: ∀ {es:List (List PV)} {l:List UInt8},bytesOf es=some l-> ∃j:List Int,es=j.map (λn=> [PV.int .u8 n])/\l=j.map (λn=>UInt8.ofNat n.toNat)
 | [],l,h=>by simp[bytesOf]at h;exact⟨[],rfl,by simp[h]⟩
 |c::r,l,h=>by unfold bytesOf at h;split at h;rename_i e;cases e;rename_i n R e;cases e;(cases C:bytesOf r with|none=>simp[C]at h|some U=>simp[C]at h;obtain⟨j,I,J⟩:=ZjO C;exact⟨n::j,by simp[I],by simp[<-h,J]⟩);cases h
def Zsb {k}: ∀ (j:List Int),VL φ w S (j.map (PV.int k)) (j.map (Value.int k))
 | []=>by simp[VL]
 |n::j=>by simp only[Xbm,VL];exact⟨_,_,rfl,ZbG _ _,Zsb j⟩
def ZmH {k}: ∀ (j:List Int) (vs:List Value),VL φ w S (j.map (PV.int k)) vs->vs=j.map (Value.int k)
 | [],vs,h=>by simpa only[XbX,VL]using h
 |n::j,vs,h=>by simp only[Xbm,VL]at h;obtain⟨v,r,rfl,rfl,h⟩:=h;simp[ZmH j r h]
def Zez {α β:Type} (f:α->β) (l:List α):(l.map (λx=> [f x])).flatten=l.map f:=by induction l<;>simp_all
def ZqU {n} (I:0<=n) (J:n<128):Utf8.encode n=⟨#[UInt8.ofNat n.toNat]⟩:=by
 have j:Utf8.valid n=true:=by simp[Utf8.valid];omega
 have C:n.toNat<128:=oM;simp[Utf8.encode,j,C]
def ZpL {s d x p a} (hI:Inv φ H w S B) (h:Zdx P H s d x=some p) (C:VRel φ w S x a):
 ∃u w' S',(convert s d a).run P w= .ok u w'/\Inv φ H w' S' B/\Evo H.length B φ S w φ S' w'/\VRel φ w' S' p u:=by
 unfold Zdx at h;split at h;rename_i x0 k k' n I hd;cases h;simp[VRel]at C;subst C;refine⟨.int k (k.wrap n),w,S, ?_,hI,Evo.refl _ _ _ _ _,ZbG _ _⟩;simp[convert,run_underlying I,run_underlying hd,Conv.intToInt];rename_i x0 st I hd;cases h;simp[VRel]at C;subst C;refine⟨.string st,w,S, ?_,hI,Evo.refl _ _ _ _ _,Zh0 _⟩;cases x0<;>simp[convert,run_underlying I,run_underlying hd];rename_i x0 k n I hd;let⟨hn,h⟩:=Zau h
 cases h;simp[VRel]at C;subst C;refine⟨.string ⟨#[UInt8.ofNat n.toNat]⟩,w,S, ?_,hI,Evo.refl _ _ _ _ _,Zh0 _⟩;rw[run_convert_int_string w s d k n (by rw[I];rfl) hd,ZqU hn.1 hn.2];rename_i e st I hd;simp[VRel]at C;subst C;split at h;rename_i he;cases h;have key:(convert s d (.string st)).run P w= .ok (.slice (some ⟨w.heap.size,0,none⟩) st.size (grownCap w st.size 0 e))
    (w.drew.alloc (.cells (bytesRow st (grownCap w st.size 0 e)) e ((bytesRow st (grownCap w st.size 0 e)).size,(bytesRow st (grownCap w st.size 0 e)).size+1))):=run_bytes_of_string w s d e st I hd he
 let⟨h1,h2⟩:=hI.foreign (ZfI w (.cells (bytesRow st (grownCap w st.size 0 e)) e ((bytesRow st (grownCap w st.size 0 e)).size,(bytesRow st (grownCap w st.size 0 e)).size+1)))
 refine⟨_,_,_,key,h1,h2, ?_⟩;simp only[VRel,IRel];have hlen:(byteCells st).length=st.size:=by simp[byteCells]
 refine⟨_,_,by rw[hlen],by rw[hlen];exact grownCap_ge _ _ _ _, .inr ⟨w.heap.size,0,1,rfl, .inr ⟨Xae _,sM⟩, ?_, ?_⟩⟩;intro c U;simp only[byteCells,XaT]at U;obtain⟨b,_,rfl⟩:=U;rfl;refine VE.toI _ _ _ (VE.of_flat ?_);have hf:(byteCells st).flatten=(st.data.toList.map λb=>(b.toNat:Int)).map (PV.int .u8):=by simp only[byteCells];rw[Zez (λb:UInt8=>PV.int .u8 b.toNat),XbG];rfl
 rw[hf];refine VC.of_vals (Zsb _) (by simp[ZcZ]) ?_;intro j v hj;have hb:=Zem w (.cells (bytesRow st (grownCap w st.size 0 e)) e ((bytesRow st (grownCap w st.size 0 e)).size,(bytesRow st (grownCap w st.size 0 e)).size+1));simp only[World.cell?,hb,Option.isSome_none,Xbh,if_false,Xag];rw[bytesRow,Array.getElem?_append_left];simpa using hj;have:=(Xaf.1 hj).1;simpa using this;cases h;rename_i x _ _ _ e I hd ab _;split at h;rename_i he;cases J:elems H x with|none=>simp[J]at h|some es=>simp only[J,Xad]at h;cases R:bytesOf es with|none=>simp[R]at h|some l=>simp only[R,Xau,Xaj]at h;subst h;obtain⟨ad,c,rfl,hle,U⟩:=ZlT hI J C;obtain⟨ns,rfl,rfl⟩:=ZjO R;refine⟨_,w,S, ?_,hI,Evo.refl _ _ _ _ _,Zh0 _⟩;rw[run_convert_bytes_string w s d e _ _ _ I he hd];rcases U with U|⟨b,o,z,rfl,hw,hv⟩;have:ns=[]:=(by simpa using U);subst this;(cases ad with|none=>simp[Conv.bytesToString];rfl|some ad=>have:=run_bytesToString (P:=P) w ad 0 c [] (by simp[loadCells,loadCellsFrom]);simp at this|-;exact this);have aa:=VE.flat hv;rw[Zez (λn:Int=>PV.int .u8 n)]at aa;(let⟨vs,h1,_,h3⟩:=VC.vals aa);have:=ZmH _ _ h1;subst this;have hl:=run_loadCells_list (P:=P) w ⟨b,o,none⟩ (ns.map (Value.int .u8)) (λj v hj=>by rw[Addr.add_lit];exact h3 j v hj);rw[Xar]at hl|-;rw[run_bytesToString w _ _ _ ns hl,foldl_push_bytes];simp
 cases h;cases h
def Zjf {tm a N} (j:TRel φ w S N tm a) {x p} (h:Zrs (ev tm) x=some p):Zkn φ w S p (x.map a.eval):=by cases x with|none=>simp[Zrs]at h;subst h;simp[Zkn]|some o=>simp[Zrs]at h;cases ho:ev tm o with|none=>simp[ho]at h|some q=>simp[ho]at h;subst h;exact⟨_,rfl,ZaD j ho⟩
def Zpj (a b:ByteArray):(a==b)=(a.data==b.data):=rfl
def ZBw {a b:ByteArray} (h:(a==b)=true):a=b:=by rw[Zpj]at h;have:=eq_of_beq h;cases a;cases b;simp at this;simp[this]
def Zne {t e} (h:Zjs P t=some e): ∃k,P.underlying t=some (.map k e.2)/\P.underlying k=some e.1:=by grind [Zjs]
def Ky.val:Ky->Value
 | .s b=> .string b
 | .i k n=> .int k n
def Znh {p:PV} {key:Ky} (h:keyOf p=some key):p=key.pv:=by unfold keyOf at h;split at h<;>cases h<;>rfl
def ZEt {key:Ky} {v:Value} (h:VRel φ w S key.pv v):v=key.val:=by cases key<;>simpa only[Ky.pv,VRel,Ky.val]using h
def ZD0 (key:Ky):VRel φ w S key.pv key.val:=by cases key<;>simp[Ky.pv,VRel,Ky.val]
def ZmR {key:Ky} {d:TypeDesc} (hd:Zgs key d=true) {q:PV} {b:Bool} (h:ZEX key q=some b) {v:Value} (C:VRel φ w S q v):Instr.sameNow d key.val v=some b/\(b=true->v=key.val):=by cases key with|s x=>(cases q<;>simp[ZEX,ZvV,Xaj]at h<;>try (cases h;done));rename_i y;subst C h;(cases d<;>simp[Zgs]at hd<;>try (cases hd;done));exact⟨rfl,λj=>by rw[ZBw j];rfl⟩|i k n=>(cases q<;>simp only[ZEX]at h<;>try (cases h;done));rename_i k' m;subst C;by_cases I:k=k';(·subst I;rw[if_pos rfl]at h;cases h;(cases d<;>simp[Zgs]at hd<;>try (cases hd;done));refine⟨by simp[Ky.val,Instr.sameNow],λj=> ?_⟩;rw[eq_of_beq j];rfl);grind
def Ziy {key:Ky} {d:TypeDesc} (hd:Zgs key d=true): ∀ {es:List (PV×PV)} {r:Option PV} {C:List MapEntry} (i:Nat),ZdX key es=some r->VM φ w S es C->
 ∃I,Instr.findNow d key.val C i=some I/\(match r,I with|none,none=>True|some p,some (j,v)=>VRel φ w S p v|_,_=>False)
 | [],r,C,i,h,J=>by simp[ZdX]at h;subst h;simp[VM]at J;subst J;exact⟨none,rfl,trivial⟩
 |(k,v)::es,r,C,i,h,J=>by obtain⟨e,l',rfl,hk,R,hr⟩:=J;rw[ZdX]at h;cases U:ZEX key k with|none=>rw[U]at h;cases h|some b=>rw[U,Xad]at h;(let⟨h1,_⟩:=ZmR hd U hk);cases b with|true=>cases h;exact⟨some (i,e.val),by simp[Instr.findNow,h1],R⟩|false=>(let⟨I,h2,h3⟩:=Ziy hd (i+1) h hr);exact⟨I,by simp[Instr.findNow,h1,h2],h3⟩
def ZpI {t:TypeId} {p:PV} (h:Zef P t=some p): ∃v,(zeroValue t).run P w= .ok v w/\VRel φ w S p v:=by unfold Zef at h;split at h;rename_i i hi;split at h;rename_i v j;exact⟨v,by simp[zeroValue,typeInfo,hi,j],ZlW h⟩;cases h;cases h
def Zzl {p:PV} {x:Sc} (h:ZHR p=some x) {v:Value} (j:VRel φ w S p v):v=x.val:=by cases p<;>simp[ZHR]at h<;>first|(cases h;done)|(cases h;simpa only[VRel,Sc.val]using j)
def Zsi {t:TypeId} (h:notIfc P t=true): ∃d,P.underlying t=some d/\ ∀x,d≠ .interface x:=by grind [notIfc]
def ZqP {t:TypeId} {v p:PV} {a:Value} (h:Zh4 P t (some v)=some p) (j:VRel φ w S v a): ∃u,(Instr.makeInterface t a).run P w= .ok u w/\VRel φ w S p u:=by unfold Zh4 at h;rw[Xad]at h;cases hn:notIfc P t with|false=>rw[hn]at h;cases h|true=>rw[hn,cond_true]at h;obtain⟨x,C,rfl⟩:=Option.map_eq_some_iff.1 h;have:=Zzl C j;subst this;(let⟨d,hu,hd⟩:=Zsi hn);refine⟨.iface t x.val, ?_,by simp[VRel]⟩;cases d<;>first|exact absurd rfl (hd _)|simp[Instr.makeInterface,run_underlying hu]
def Znr {j u:TypeId} {v p:PV} {ok:Bool} {a:Value} (h:Zhc P (some v) u ok=some p) (C:VRel φ w S v a): ∃r,(Instr.typeAssert a j u ok).run P w= .ok r w/\VRel φ w S p r:=by unfold Zhc at h;cases h
def Zdn {t cs} (h:Zek P t=some cs): ∃i v,P.info? t=some i/\i.zero=some v/\VL φ w S cs v.cells.toList/\(∀c∈cs,ZcZ c=true):=by grind [Zek,Zfp]
def Zdl {k b key d} (j:P.underlying k=some d) (hd:Zgs key d=true):(Instr.checkKey b 10000 k key.val).run P w= .ok () w:=by rw[Instr.checkKey];cases key<;>cases d<;>simp[Zgs]at hd<;>first|(cases hd;done)|simp[run_underlying j,Ky.val]
def ZsK {x a es} (hI:Inv φ H w S B) (h:Zo5 H x=some es) (C:VRel φ w S x a):
 (a= .map none/\es=[])\/ ∃id l j clock,x= .map id/\φ id=some l/\H[id]? =some (.map es)/\a= .map (some l.b)/\w.heap[l.b]? =some (.map j clock)/\VM φ w S es j.toList:=by
 unfold Zo5 at h;split at h;grind [VRel];rename_i id;split at h;rename_i es' hm;cases h;obtain⟨l,hl,rfl⟩:=C;let⟨_,j,clock,I,J⟩:=hI.map id l _ hl hm
 exact .inr ⟨id,l,j,clock,rfl,hl,hm,rfl,I,J.1⟩;cases h;cases h
def Zmn {t x k p a j ok} (hI:Inv φ H w S B) (h:Zd3 P H t x k ok=some p) (hx:VRel φ w S x a) (hj:VRel φ w S k j):
 ∃u,(Instr.lookup t a j ok).run P w= .ok u w/\VRel φ w S p u:=by
 unfold Zd3 at h;cases hs:Zjs P t with
 |none=>simp[hs]at h
 |some e=>
  (let⟨kt,hu,R⟩:=Zne hs);simp[hs,Xad]at h;cases I:keyOf k with
  |none=>simp[I]at h
  |some key=>
   have ad:=Znh I;subst ad;have hj:=ZEt hj;subst hj;simp[I,Xad]at h;cases hd:Zgs key e.1 with
   |false=>simp[hd]at h
   |true=>
   rw[hd,cond_true]at h;cases hm:Zo5 H x with
   |none=>simp[hm]at h
   |some es=>
   simp[hm,Xad]at h;cases U:ZdX key es with
   |none=>simp[U]at h
   |some r=>
    simp[U,Xad]at h;cases hz:Zef P e.2 with
    |none=>simp[hz]at h
    |some zero=>
     simp[hz,Xad]at h;subst h;(let⟨zv,aa,ab⟩:=ZpI (w:=w) (φ:=φ) (S:=S) hz);have J: ∀C,Instr.findNow e.1 key.val C 0=some none->(Instr.findKey kt key.val C).run P w= .ok none w:=by intro C hf;simp[Instr.findKey,run_underlying R,hf]
     have found: ∀ (C:List MapEntry) jv,Instr.findNow e.1 key.val C 0=some (some jv)->(Instr.findKey kt key.val C).run P w= .ok (some jv) w:=by intro C jv hf;simp[Instr.findKey,run_underlying R,hf]
     have hzero:VRel φ w S (if ok=true then PV.tup [zero,PV.bool false]else zero) (if ok then .tuple #[zv, .bool false]else zv):=(by cases ok;simpa using ab;simp only[VRel];exact⟨_,rfl,_,_,rfl,ab,_,_,rfl,Zh8 _,by simp[VL]⟩);rcases ZsK hI hm hx with⟨rfl,rfl⟩|⟨id,l,C,clock,rfl,hl,ae,rfl,hb,hv⟩;simp[ZdX]at U;subst U;exact⟨_,by simp[Instr.lookup,run_underlying hu,Zdl R hd,J [] rfl,aa]<;>rfl,hzero⟩;(let⟨r',h1,h2⟩:=Ziy hd 0 U hv);cases r with|none=>(cases r' with|some _=>exact h2.elim|none=>exact⟨_,by simp[Instr.lookup,run_underlying hu,getObj,Sem.run,hb,Zdl R hd,J _ h1,aa]<;>rfl,hzero⟩)|some q=>cases r' with|none=>exact h2.elim|some jv=>(let⟨j,v⟩:=jv);refine⟨if ok then .tuple #[v, .bool true]else v,by simp[Instr.lookup,run_underlying hu,getObj,Sem.run,hb,Zdl R hd,found _ _ h1], ?_⟩;cases ok;simpa using h2;simp only[if_true,VRel];exact⟨_,rfl,_,_,rfl,h2,_,_,rfl,Zh8 _,by simp[VL]⟩
end
variable [Laid]
section
variable {P:Program} {w:World} {φ:Phi} {S:Nat->Prop} {B:Nat} {H:List Mem}
def ZhL {α:Type} (l:List α) (off:Nat) (cs:List α) (h:off+cs.length<=l.length):(splice l off cs).length=l.length:=by simp[splice];omega
def Zmu {α:Type} (l:List α) (off:Nat):splice l off []=l:=by simp[splice]
def Zrz {α:Type} (l:List α) (off:Nat) (c:α) (cs:List α) (h:off<l.length):splice l off (c::cs)=splice (l.set off c) (off+1) cs:=by unfold splice;rw[Xa2 (by simpa using h)];simp[XbT,XbK (Xae off),Xa7,List.singleton_append,Xa5,Xba];grind [XbA]
def ZkW: ∀ (vs:List Value) (off k:Nat) (cs:Array Value),off+k+vs.length<=cs.size->
 ((vs.zipIdx k).foldl (λ(cs:Array Value) (x:Value×Nat)=>cs.setIfInBounds (off+x.2) x.1) cs).toList=splice cs.toList (off+k) vs
 | [],off,k,cs,_=>by simp[Zmu]
 |v::vs,off,k,cs,h=>by simp only[Xao]at h;simp only[List.zipIdx_cons,List.foldl_cons];rw[ZkW vs off (k+1) _ (by simp;omega)];rw[Zrz _ _ _ _ (by simp;omega)];simp[XbL]
def ZjB (v:Value) off (cs:Array Value) (h:off+v.cells.size<=cs.size):
 (v.cells.zipIdx.foldl (λcs (c,j)=>cs.setIfInBounds (off+j) c) cs).toList=splice cs.toList off v.cells.toList:=by have:=ZkW v.cells.toList off 0 cs (by simpa using h);rw[<-Array.foldl_toList];simpa using this
def VL.splice {l vs cs us off} (h:VL φ w S l vs) (j:VL φ w S cs us):VL φ w S (splice l off cs) (splice vs off us):=by unfold Am.splice;grind [VL.length,VL.append,VL.take,VL.drop]
def ZiL {α:Type} {l off cs} {x:α} (h:x∈splice l off cs):x∈l\/x∈cs:=by grind [splice]
def Zhq {p v} (h:VRel φ w S p v) (j: ∀vs,p≠ .tup vs):VL φ w S (cellsOf p) v.cells.toList/\(∀c∈cellsOf p,ZcZ c=true):=by
 have one: ∀ {q:PV} {u:Value},VRel φ w S q u->ZcZ q=true->u.cells= #[u]->VL φ w S [q] u.cells.toList/\(∀c∈ [q],ZcZ c=true):=by intro q u C I J;rw[J];exact⟨⟨u,[],rfl,C,by simp[VL]⟩,by simpa using I⟩
 cases p with|agg cs=>obtain⟨arr,rfl,ho,R⟩:=h;exact⟨R,ho⟩|tup vs=>exact absurd rfl (j vs)|_=>refine one h rfl ?_;have:=Zub rfl h;cases v<;>first|rfl|(simp[Value.oneCell']at this)
def ZAV (φ:Phi) (w:World) (S:Nat->Prop):List (Nat×PV)->List (Nat×Value)->Prop
 | [],l=>l=[]
 |(i,p)::r,l=> ∃v j,l=(i,v)::j/\VL φ w S (cellsOf p) v.cells.toList/\(∀c∈cellsOf p,ZcZ c=true)/\ZAV φ w S r j
def Zfr {place}: ∀ {parts:List (Nat×PV)} {ps:List (Nat×Value)} {cs I:List PV} {arr:Array Value},Zdt place cs parts=some I->ZAV φ w S parts ps->VL φ w S cs arr.toList->(∀c∈cs,ZcZ c=true)->
 ∃C,Instr.fill place arr ps=some C/\VL φ w S I C.toList/\(∀c∈I,ZcZ c=true)
 | [],ps,cs,I,arr,h,hp,R,U=>by simp[Zdt]at h;subst h;simp[ZAV]at hp;subst hp;exact⟨arr,rfl,R,U⟩
 |(i,p)::r,ps,cs,I,arr,h,hp,R,U=>by
  obtain⟨v,l',rfl,hc,ho,hr⟩:=hp;simp[Zdt]at h;cases J:place i with
  |none=>simp[J]at h
  |some on=>
   (let⟨off,n⟩:=on);simp only[J,Xad]at h;(let⟨⟨hl,hle⟩,h⟩:=Zau h);have ad:v.cells.size=n:=(by have:=VL.length hc;simpa[hl]using this);have ab:arr.size=cs.length:=(by have:=VL.length R;simpa using this);let⟨C,h2,h3,h4⟩:=Zfr (arr:=v.cells.zipIdx.foldl (λcs (c,j)=>cs.setIfInBounds (off+j) c) arr) h hr (by rw[(ZjB v off arr oM)];exact VL.splice R hc)
    (λc aa=>(ZiL aa).elim (U c) (ho c))
   refine⟨C, ?_,h3,h4⟩;simp only[Instr.fill,J];grind
def Zec {α:Type} {z}: ∀ (es:List (List α)) (i:Nat) (c:List α),(∀x∈es,x.length=z)->c.length=z->i<es.length->(es.set i c).flatten=splice es.flatten (i*z) c
 | [],i,c,_,_,hi=>by simp at hi
 |e::es,0,c,j,C,_=>by grind [Xah,splice]
 |e::es,i+1,c,j,C,hi=>by have he:=j e Xah;simp only[List.set_cons_succ,List.flatten_cons];rw[Zec es i c (λx I=>j x (Xai _ I)) C (by simpa using hi)];unfold splice;have J:(i+1)*z=e.length+i*z:=(by rw[Xbs,he];omega);rw[J,List.take_length_add_append,show e.length+i*z+c.length=e.length+(i*z+c.length)from by omega,List.drop_length_add_append];simp
def Za5 {α:Type} {z}: ∀ (es:List (List α)),(∀x∈es,x.length=z)->es.flatten.length=es.length*z
 | [],_=>sM
 |e::es,j=>by simp only[List.flatten_cons,Xal,Xao];rw[Za5 es (λx C=>j x (Xai _ C)),j e Xah,Xbs];omega
def ZhK {z}: ∀ {parts:List (Nat×PV)} {ps:List (Nat×Value)} {es es':List (List PV)} {arr:Array Value},ZdO z es parts=some es'->ZAV φ w S parts ps->VL φ w S es.flatten arr.toList->(∀c∈es.flatten,ZcZ c=true)->(∀x∈es,x.length=z)->
 ∃C,Instr.fill (λi=>some (i*z,z)) arr ps=some C/\VL φ w S es'.flatten C.toList/\(∀c∈es'.flatten,ZcZ c=true)/\(∀x∈es',x.length=z)/\es'.length=es.length
 | [],ps,es,es',arr,h,hp,J,U,R=>by simp[ZdO]at h;subst h;simp[ZAV]at hp;subst hp;exact⟨arr,rfl,J,U,R,rfl⟩
 |(i,p)::r,ps,es,es',arr,h,hp,J,U,R=>by
  obtain⟨v,l',rfl,hc,ho,hr⟩:=hp;(let⟨⟨hl,hi⟩,h⟩:=Zau h);have ae:v.cells.size=z:=(by have:=VL.length hc;simpa[hl]using this);have ad:arr.size=es.length*z:=(by have:=VL.length J;rw[Za5 es R]at this;simpa using this);have hb:i*z+z<=es.length*z:=(by rw[<-Nat.succ_mul];exact Xbk _ hi);have I:=Zec es i (cellsOf p) R hl hi;have aa: ∀x∈es.set i (cellsOf p),x.length=z:=by grind
  let⟨C,h2,h3,h4,h5,h6⟩:=ZhK (arr:=v.cells.zipIdx.foldl (λcs (c,j)=>cs.setIfInBounds (i*z+j) c) arr) h hr
   (by rw[(ZjB v (i*z) arr oM),I];exact VL.splice J hc) (by rw[I];exact λc ab=>(ZiL ab).elim (U c) (ho c)) aa
  refine⟨C, ?_,h3,h4,h5,by rw[h6,Xap]⟩;simp only[Instr.fill];grind
def ZwG {v p} (h:Zj3 v=some p):p=v/\ ∀vs,p≠ .tup vs:=by cases v<;>simp[Zj3]at h<;>subst h<;>exact⟨rfl,sM⟩
def ZgR {x p} (h:x.bind Zj3=some p):x=some p/\ ∀vs,p≠ .tup vs:=by cases x with|none=>simp at h|some v=>simp at h;obtain⟨rfl,j⟩:=ZwG h;exact⟨rfl,j⟩
def Zfz {tm a N} (I:TRel φ w S N tm a): ∀ {parts:List (Nat×Operand)} {ps:List (Nat×PV)},Za3 (λx:Nat×Operand=>((ev tm x.2).bind Zj3).map λv=>(x.1,v)) parts=some ps->
 ZAV φ w S ps (parts.map λ(i,x)=>(i,a.eval x))
 | [],ps,h=>by simp[ZcA]at h;subst h;simp[ZAV]
 |(i,x)::parts,ps,h=>by obtain⟨b,s,j,J,rfl⟩:=ZaM h;cases he:(ev tm x).bind Zj3 with|none=>simp[he]at j|some v=>simp[he]at j;subst j;(let⟨C,hn⟩:=ZgR he);have:=Zhq (ZaD I C) hn;exact⟨a.eval x,_,rfl,this.1,this.2,Zfz I J⟩
def ZfJ z n:(madeCells z (n*z.size)).toList=(List.replicate n z.toList).flatten:=by
 induction n with
 |zero=>simp[madeCells]
 |succ n j=>
  rw[List.replicate_succ,List.flatten_cons,<-j];have e:(n+1)*z.size=z.size+n*z.size:=(by rw[Xbs];omega);have hl: ∀m,(madeCells z m).toList=(List.range m).map (z[· % z.size]!):=by intro m;simp[madeCells]
  rw[hl,hl,e,List.range_add,Xbb,XbG];congr 1;apply List.ext_getElem;simp;grind [Xbz];simp_all [Xbr]
def ZlP: ∀ (j:List Field) (C:List Nat),Za3 (λf:Field=>Zbi P f.type) j=some C->
 ∃places,(j.mapM λf=>(do pure (f.offset,<-sizeOf f.type):Sem (Nat×Nat))).run P w= .ok places w/\ ∀i:Nat,places[i]? =(j[i]?).bind λf:Field=>(Zbi P f.type).map λn=>(f.offset,n)
 | [],C,h=>⟨[],rfl,sM⟩
 |f::j,C,h=>by obtain⟨b,s,I,J,rfl⟩:=ZaM h;(let⟨pl,U,R⟩:=ZlP j s J);refine⟨(f.offset,b)::pl, ?_, ?_⟩;simp_all [ZaR];intro i;cases i with|zero=>simp[I]|succ i=>simp[R]
def Zoa {t parts ps p} (h:Zju P t parts=some p) (hp:ZAV φ w S parts ps.toList):
 ∃u,(Instr.build t ps).run P w= .ok u w/\VRel φ w S p u:=by unfold Zju at h;cases hz:Zek P t with|none=>simp[hz]at h|some zero=>simp[hz,Xad]at h;(let⟨i,v,hi,aa,hv,ho⟩:=Zdn (w:=w) (φ:=φ) (S:=S) hz);have I:(zeroValue t).run P w= .ok v w:=(by simp[zeroValue,typeInfo,hi,aa]);split at h;rename_i J hu;(cases hf:Zdt (λi:Nat=>(J[i]?).bind λf:Field=>(Zbi P f.type).map λn=>(f.offset,n)) zero parts with|none=>simp[hf]at h|some cs=>simp only[hf,Xad]at h;cases j:Za3 (λf:Field=>Zbi P f.type) J.toList with|none=>simp[j]at h|some ns=>simp[j,Xau]at h;subst h;(let⟨pl,ab,ae⟩:=ZlP (w:=w) J.toList ns j);(let⟨arr,U,h2,h3⟩:=Zfr hf hp hv ho);have R:(λi:Nat=>(J[i]?).bind λf:Field=>(Zbi P f.type).map λn=>(f.offset,n))=(pl.toArray[·]?):=(by grind);rw[R]at U;refine⟨.agg arr, ?_,by simp only[VRel];exact⟨arr,rfl,h3,h2⟩⟩;have ad:(J.mapM λf=>(do pure (f.offset,<-sizeOf f.type):Sem (Nat×Nat))).run P w= .ok pl.toArray w:=(by rw[Array.mapM_eq_mapM_toList];simp only[Sem.run_map,ab,Result.andThen_ok]);simp only[Instr.build,Sem.run_bind,I,Result.andThen_ok,Zas hu,ad,U,Sem.run_pure]);rename_i n e hu;(cases C:Zbi P e with|none=>simp[C]at h|some n=>simp only[C,Xad]at h;cases hf:Zdt (λi=>some (i*n,n)) zero parts with|none=>simp[hf]at h|some cs=>simp[hf,Xau]at h;subst h;(let⟨arr,U,h2,h3⟩:=Zfr hf hp hv ho);refine⟨.agg arr, ?_,by simp only[VRel];exact⟨arr,rfl,h3,h2⟩⟩;simp[Instr.build,Sem.run_bind,I,Result.andThen_ok,Zas hu,ZaR C,U,Sem.run_pure]);cases h
def Zgx {t e} (h:Zmm P t=some e):P.underlying t=some (.slice e):=by grind [Zmm]
def Zjj {t n parts ps m} (h:ZbM P t n parts=some m) (hp:ZAV φ w S parts ps.toList):
 ∃es z arr e,m= .row es z true/\(Instr.buildSlice t n ps).run P w= .ok (.slice (some ⟨w.heap.size,0,none⟩) n n) (w.alloc (.cells arr e))/\es.length=n/\VL φ w S es.flatten arr.toList/\(∀c∈es.flatten,ZcZ c=true)/\(∀x∈es,x.length=z):=by
 unfold ZbM at h;cases he:Zmm P t with
 |none=>simp[he]at h
 |some e=>
  have hu:=Zgx he;simp[he,Xad]at h;cases U:Zbi P e with
  |none=>simp[U]at h
  |some z=>
   simp[U,Xad]at h;cases j:Zek P e with
   |none=>simp[j]at h
   |some zero=>
    simp only[j,Xad]at h;(let⟨⟨I,ak,J,aj⟩,h⟩:=Zau h);by_cases aa:n=0;subst aa;have ab:=I.elim (λh=>absurd h (XbO 0)) id;subst ab;simp[ZdO]at h;subst h;have ad:ps= #[]:=(by apply Array.ext';cases ae:ps.toList with|nil=>rfl|cons x r=>rw[ae]at hp;simp[ZAV]at hp);subst ad;refine⟨[],z, #[],e,rfl, ?_,rfl,by simp[VL],sM,sM⟩;unfold Instr.buildSlice;simp[Zas hu,ZaR U,Instr.fill,newRow];rw[show Array.range 0= #[]from by apply Array.ext';simp,Array.map_empty];have al:0<n:=oM;cases hf:ZdO z (List.replicate n zero) parts with
    |none=>simp[hf]at h
    |some es=>
     simp[hf,Xau]at h;subst h;(let⟨i,v,hi,af,hv,ho⟩:=Zdn (w:=w) (φ:=φ) (S:=S) j);have ag:(zeroValue e).run P w= .ok v w:=(by simp[zeroValue,typeInfo,hi,af]);have ah:v.cells.size=z:=(by have:=VL.length hv;simpa[J]using this);have R: ∀k,VL φ w S (List.replicate k zero).flatten (List.replicate k v.cells.toList).flatten:=by intro k;induction k with|zero=>simp[VL]|succ k ih=>simp[List.replicate_succ,List.flatten_cons];exact VL.append hv ih
     have C:(madeCells v.cells (n*z)).toList=(List.replicate n v.cells.toList).flatten:=(by rw[<-ah];exact ZfJ _ _);let⟨arr,h1,h2,h3,h4,h5⟩:=ZhK (arr:=madeCells v.cells (n*z)) hf hp (by rw[C];exact R n)
      (by intro c hc;simp[List.mem_replicate]at hc;obtain⟨l,⟨_,rfl⟩,hc⟩:=hc;exact ho c hc)
      (by intro x hx;rw[(List.mem_replicate.1 hx).2];exact J)
     refine⟨es,z,arr,e,rfl, ?_,by simpa using h5,h2,h3,h4⟩;have ai: ¬n*z=0:=by intro hh;rcases Nat.mul_eq_zero.1 hh with h|h<;>omega
     have hle: ¬n*z>2^24:=by have:(2:Nat)^24=16777216:=dC
                             omega
     unfold Instr.buildSlice;simp[Zas hu,ZaR U,if_neg hle,if_neg ai,Sem.run_pure,ag];unfold madeCells at h1;simp only[h1,newRow,Sem.run_bind,run_newObj,Result.andThen_ok,Sem.run_pure];rfl
end
variable [Laid]
section
variable {P:Program} {w:World} {φ:Phi} {S:Nat->Prop} {B:Nat} {H:List Mem}
def ZC8 (φ:Phi) (ids:List Nat) (b:Nat):Prop:= ∃id∈ids,∃l,φ id=some l/\l.b=b
def Zdq (S:Nat->Prop) (φ:Phi) (ids:List Nat) (b:Nat):Prop:=S b\/ZC8 φ ids b
def Zsc {f} {es es':List (List PV)} {z} (h:Za3 (Za3 f) es=some es') (C: ∀x∈es,x.length=z): ∀x∈es',x.length=z:=by
 intro x j;let⟨y,I,he⟩:=Znw h x j
 grind [Zfw]
section
variable {ids:List Nat} {n:Nat}
def ZdI (ih: ∀v q c,exp n H v=some q->VRel φ w S v c->(∀id∈rch n H v,id∈ids)->IRel w (Zdq S φ ids) q c/\(ZcZ v=true->ZcZ q=true)):
 ∀ (vs j:List PV) (cs:List Value),Za3 (exp n H) vs=some j->VL φ w S vs cs->(∀id∈vs.flatMap (rch n H),id∈ids)->LRel w (Zdq S φ ids) j cs/\((∀v∈vs,ZcZ v=true)-> ∀q∈j,ZcZ q=true)
 | [],j,cs,h,C,_=>by simp[ZcA]at h;subst h;simp only[VL]at C;exact⟨by simp only[LRel];exact C,sM⟩
 |v::vs,j,cs,h,C,hr=>by
  obtain⟨q,s,h1,h2,rfl⟩:=ZaM h;simp only[VL]at C;obtain⟨c,r,rfl,I,J⟩:=C;have R: ∀id∈rch n H v,id∈ids:=λid hid=>hr id (by simp[hid])
  have U: ∀id∈vs.flatMap (rch n H),id∈ids:=λid hid=>hr id (by rw[Xbn];exact XbH _ hid)
  (let⟨a1,a2⟩:=ih v q c h1 I R);(let⟨b1,b2⟩:=ZdI ih vs s r h2 J U);grind [LRel,Xah,Xai]
def Zi0 (U: ∀v q c,exp n H v=some q->VRel φ w S v c->(∀id∈rch n H v,id∈ids)->IRel w (Zdq S φ ids) q c/\(ZcZ v=true->ZcZ q=true)):
 ∀ (vs j:List PV) (b o:Nat),Za3 (exp n H) vs=some j->VC φ w S vs b o->(∀id∈vs.flatMap (rch n H),id∈ids)->CsRel w (Zdq S φ ids) j b o
 | [],j,b,o,h,hv,_=>by simp[ZcA]at h;subst h;simp only[CsRel]
 |v::vs,j,b,o,h,hv,hr=>by
  obtain⟨q,s,h1,h2,rfl⟩:=ZaM h;(let⟨⟨ho,c,hc,C⟩,I⟩:=hv);have J: ∀id∈rch n H v,id∈ids:=λid hid=>hr id (by simp[hid])
  have R: ∀id∈vs.flatMap (rch n H),id∈ids:=λid hid=>hr id (by rw[Xbn];exact XbH _ hid)
  (let⟨a1,a2⟩:=U v q c h1 C J);simp only[CsRel];exact⟨⟨a2 ho,c,hc,a1⟩,Zi0 U vs s b (o+1) h2 I R⟩
def ZmJ (R: ∀v q c,exp n H v=some q->VRel φ w S v c->(∀id∈rch n H v,id∈ids)->IRel w (Zdq S φ ids) q c/\(ZcZ v=true->ZcZ q=true)):
 ∀ (es j:List (List PV)) (b o:Nat),Za3 (Za3 (exp n H)) es=some j->VE φ w S es b o->(∀id∈es.flatMap (λc=>c.flatMap (rch n H)),id∈ids)->EsRel w (Zdq S φ ids) j b o
 | [],j,b,o,h,C,_=>by simp[ZcA]at h;subst h;simp only[EsRel]
 |c::es,j,b,o,h,C,U=>by
  obtain⟨q,s,h1,h2,rfl⟩:=ZaM h;have I: ∀id∈c.flatMap (rch n H),id∈ids:=λid hid=>U id (by rw[Xbn];exact Xbu _ hid)
  have J: ∀id∈es.flatMap (λc=>c.flatMap (rch n H)),id∈ids:=λid hid=>U id (by rw[Xbn];exact XbH _ hid)
  simp only[EsRel];exact⟨Zi0 R c q b o h1 C.1 I,by rw[Zfw h1];exact ZmJ R es s b _ h2 C.2 J⟩
end
def ZfS (hI:Inv φ H w S B) ids: ∀ (n:Nat) (v q:PV) (c:Value),exp n H v=some q->VRel φ w S v c->(∀id∈rch n H v,id∈ids)->IRel w (Zdq S φ ids) q c/\(ZcZ v=true->ZcZ q=true)
 |0,v,q,c,h,_,_=>by simp[exp]at h
 |n+1,v,q,c,h,C,hr=>by
  have ih:=ZfS hI ids n;have af: ∀b,S b->Zdq S φ ids b/\w.heap[b]? =w.heap[b]? :=λb hb=>⟨.inl hb,rfl⟩
  cases v with
  |nils=>simp[exp,Xaj]at h;subst h;exact⟨by simpa only[IRel,VRel]using C,λ_=>rfl⟩
  |bool b=>simp[exp,Xaj]at h;subst h;exact⟨by simpa only[IRel,VRel]using C,λ_=>rfl⟩
  |int k m=>simp[exp,Xaj]at h;subst h;exact⟨by simpa only[IRel,VRel]using C,λ_=>rfl⟩
  |str s=>simp[exp,Xaj]at h;subst h;exact⟨by simpa only[IRel,VRel]using C,λ_=>rfl⟩
  |nilp=>simp[exp,Xaj]at h;subst h;exact⟨by simpa only[IRel,VRel]using C,λ_=>rfl⟩
  |nilf=>simp[exp,Xaj]at h;subst h;exact⟨by simpa only[IRel,VRel]using C,λ_=>rfl⟩
  |nilm=>simp[exp,Xaj]at h;subst h;exact⟨by simpa only[IRel,VRel]using C,λ_=>rfl⟩
  |ifc t x=>simp[exp,Xaj]at h;subst h;exact⟨by simpa only[IRel,VRel]using C,λ_=>rfl⟩
  |nili=>simp[exp,Xaj]at h;subst h;exact⟨by simpa only[IRel,VRel]using C,λ_=>rfl⟩
  |lst es=>simp[exp,Xaj]at h;subst h;simp[VRel]at C;exact⟨IRel.mono af _ _ C,λ_=>rfl⟩
  |box cs r=>simp[exp,Xaj]at h;subst h;simp[VRel]at C;exact⟨IRel.mono af _ _ C,λ_=>rfl⟩
  |map id=>simp[exp]at h
  |ref id i l room=>
   simp[exp]at h;split at h;rename_i es z m hm;(let⟨hle,h⟩:=Zau h);cases he:Za3 (Za3 (exp n H)) ((es.drop i).take l)with
    |none=>simp[he]at h
    |some qs=>
     simp[he,Xau]at h;subst h;refine⟨?_,λ_=>rfl⟩;simp only[VRel]at C;obtain⟨lc,ad,cp,U,rfl,ab,ae,I⟩:=C;have ag:=XaK ab ae;have hlen:((es.drop i).take l).length=l:=(by rw[Xaz,XbC];omega);have ah:qs.length=l:=(by rw[Zfw he,hlen]);have J: ∀x∈id::((es.drop i).take l).flatMap (λc=>c.flatMap (rch n H)),x∈ids:=by intro x I;apply hr;simp only[rch,hm];exact I
     have j:=hI.row id lc es z m U hm;simp only[IRel];refine⟨ad,cp,by rw[ah],by rw[ah];exact ag, ?_⟩;rcases I with⟨h0,_⟩|⟨rfl,_⟩;left;exact Xbv.1 oM;right;refine⟨lc.b,lc.o+i*lc.z,z,rfl, .inr ⟨id,J id Xah,lc,U,rfl⟩,Zsc he (λx I=>j.wid x (XbE (XaY I))),(ZmJ ih _ _ _ _ he ?_ (λx I=>J x (Xai _ I)))⟩;rw[j.zs];exact VE.take l (VE.drop i j.wid oM j.cells)
   cases h
  |ptr id i r=>
   simp[exp]at h;split at h;rename_i es z m hm;cases hc:es[i]? with
    |none=>simp[hc]at h
    |some cc=>
     simp[hc,Xad]at h;cases he:Za3 (exp n H) cc with
     |none=>simp[he]at h
     |some qs=>
      simp[he,Xau,Xaj]at h;subst h;refine⟨?_,λ_=>rfl⟩;simp[VRel]at C;obtain⟨lc,U,rfl⟩:=C;have J: ∀x∈id::cc.flatMap (rch n H),x∈ids:=by intro x I;apply hr;simp only[rch,hm,hc,Option.getD_some];exact I
      have j:=hI.row id lc es z m U hm;simp only[IRel];refine⟨lc.b,lc.o+i*lc.z,rfl, .inr ⟨id,J id Xah,lc,U,rfl⟩,(Zi0 ih _ _ _ _ he ?_ (λx I=>J x (Xai _ I)))⟩;rw[j.zs];exact VE.get j.wid j.cells hc
   cases h
  |func f a c'=>
   simp[exp]at h;cases R:Za3 (exp n H) a with
   |none=>simp[R]at h
   |some a'=>
    cases h2:Za3 (exp n H) c' with
    |none=>simp[R,h2]at h
    |some c2=>
     simp[R,h2,Xad,Xau,Xaj]at h;subst h;simp[VRel]at C;obtain⟨fs,cs,rfl,aa,ai⟩:=C;have J: ∀x∈a.flatMap (rch n H)++c'.flatMap (rch n H),x∈ids:=by intro x I;apply hr;simp only[rch];exact I
     refine⟨?_,λ_=>rfl⟩;simp only[IRel];exact⟨fs,cs,rfl,(ZdI ih a a' _ R aa λx I=>J x (Xbu _ I)).1,(ZdI ih c' c2 _ h2 ai λx I=>J x (XbH _ I)).1⟩
  |agg cs=>simp[exp]at h;cases R:Za3 (exp n H) cs with|none=>simp[R]at h|some qs=>simp[R,Xau,Xaj]at h;subst h;simp[VRel]at C;obtain⟨arr,rfl,ho,aa⟩:=C;(let⟨a1,a2⟩:=ZdI ih cs qs _ R aa (λx I=>hr x (by simp only[rch];exact I)));exact⟨by simp only[IRel];exact⟨arr,rfl,a2 ho,a1⟩,λh=>by simp[ZcZ]at h⟩
  |tup cs=>simp[exp]at h;cases R:Za3 (exp n H) cs with|none=>simp[R]at h|some qs=>simp[R,Xau,Xaj]at h;subst h;simp[VRel]at C;obtain⟨arr,rfl,aa⟩:=C;(let⟨a1,a2⟩:=ZdI ih cs qs _ R aa (λx I=>hr x (by simp only[rch];exact I)));exact⟨by simp only[IRel];exact⟨arr,rfl,a1⟩,λh=>by simp[ZcZ]at h⟩
def Zut: ∀ (n:Nat) (v:PV) (id:Nat),id∈rch n H v->id<H.length
 |0,v,id,h=>by simp[rch]at h
 |n+1,v,id,h=>by
  have j:=Zut n;have hl: ∀ (l:List PV),id∈l.flatMap (rch n H)->id<H.length:=by grind
  (cases v<;>simp only[rch]at h<;>try (simp at h;done));grind;grind;grind;exact hl _ h;exact hl _ h
def Zlu: ∀ (n:Nat) (v:PV) (id:Nat),id∈rch n H v-> ∃es z m,H[id]? =some (.row es z m)
 |0,v,id,h=>by simp[rch]at h
 |n+1,v,id,h=>by
  have j:=Zlu n;have hl: ∀ (l:List PV),id∈l.flatMap (rch n H)-> ∃es z m,H[id]? =some (.row es z m):=by grind
  (cases v<;>simp only[rch]at h<;>try (simp at h;done));grind;grind;grind;exact hl _ h;exact hl _ h
def Zjv:PV->Bool
 | .bool _| .int _ _| .str _| .nilp| .nils| .nilf| .nilm| .nili| .ifc _ _=>true
 | .lst es=>es.isEmpty
 |_=>false
def Zbp {S':Nat->Prop} {p:PV} {v:Value} (h:Zjv p=true) (j:IRel w S p v):IRel w S' p v:=by
 cases p<;>simp only[Zjv]at h<;>try (simp at h;done)
 all_goals first
  |(simpa only[IRel]using j)
  |(simp[IRel]at j|-
    grind)
theorem ZlY {S':Nat->Prop}: ∀ {ps:List PV} {vs:List Value},ps.all Zjv=true->LRel w S ps vs->LRel w S' ps vs
 | [],_,_,j=>by simpa only[LRel]using j
 |p::ps,_,h,j=>by simp only[List.all_cons,Xas]at h;simp only[LRel]at j|-;obtain⟨v,r,rfl,C,I⟩:=j;exact⟨v,r,rfl,Zbp h.1 C,ZlY h.2 I⟩
def ZqF:PV->Bool
 | .agg cs=>cs.all Zjv
 |p=>Zjv p
theorem Zk0 {S':Nat->Prop} {p:PV} {v:Value} (h:ZqF p=true) (j:IRel w S p v):IRel w S' p v:=by cases p with|agg cs=>grind [ZqF,IRel,ZlY]|_=>exact Zbp h j
def ZjP {S':Nat->Prop}: ∀ {ps:List PV} {vs:List Value},ps.all ZqF=true->LRel w S ps vs->LRel w S' ps vs
 | [],_,_,j=>by simpa only[LRel]using j
 |p::ps,_,h,j=>by simp only[List.all_cons,Xas]at h;simp only[LRel]at j|-;obtain⟨v,r,rfl,C,I⟩:=j;exact⟨v,r,rfl,Zk0 h.1 C,ZjP h.2 I⟩
def ZvO {S':Nat->Prop} {p:PV} {v:Value} (h:Zji p=true) (j:IRel w S p v):IRel w S' p v:=by
 cases p with
 |agg cs=>grind [Zk0,Zji,ZqF,XaH,Zjv]
 |tup vs=>
  simp[IRel]at j|-;obtain⟨arr,rfl,j⟩:=j;refine⟨arr,rfl,ZjP ?_ j⟩;simp only[Zji]at h;rw[XaH]at h|-;intro x C;have:=h x C;cases x<;>simp_all [Zjv,ZqF];all_goals (
   rename_i cs
   intro y I
   have:=this y I
   cases y<;>simp_all [Zjv])
 |bool b=>exact Zbp rfl j
 |int k n=>exact Zbp rfl j
 |str s=>exact Zbp rfl j
 |nilp=>exact Zbp rfl j
 |nils=>exact Zbp rfl j
 |nilf=>exact Zbp rfl j
 |nilm=>exact Zbp rfl j
 |nili=>exact Zbp rfl j
 |ifc _ _=>exact Zbp rfl j
 |lst es=>exact Zbp h j
 |ptr _ _ _=>simp[Zji]at h
 |ref _ _ _ _=>simp[Zji]at h
 |map _=>simp[Zji]at h
 |box _ _=>simp[Zji]at h
 |func _ _ _=>simp[Zji]at h
end
variable [Laid]
section
variable {P:Program} {h:Hints} {E:Ev} {w:World} {φ φ':Phi} {S:Nat->Prop} {B:Nat} {N:Nat} {tm:List (Nat × PV)} {a:Act} {H:List Mem}
def Zlh {tm:List (Nat×PV)}: ∀ {ks:List Nat} {t:Nat} {p:PV},get (Zpk tm ks) t=some p->get tm t=some p
 | [],t,p,h=>by simp[Zpk,ZnM]at h
 |k::r,t,p,h=>by simp only[Zpk]at h;split at h;rename_i v j;rw[ZcU]at h;split at h;rename_i e;subst e;cases h;exact j;exact Zlh h;exact Zlh h
theorem Zp7 (j:TRel φ w S N tm a) (ks:List Nat):TRel φ w S N (Zpk tm ks) a:=⟨j.1,j.2.1,λi p hp=>j.2.2 i p (Zlh hp)⟩
def Zmo: ∀ {l:List PV} {vs:List Value},(∀p∈l,∀v,VRel φ w S p v->VRel φ' w S p v)->VL φ w S l vs->VL φ' w S l vs
 | [],_,_,h=>by simpa only[VL]using h
 |p::ps,_,hp,h=>by simp only[VL]at h|-;obtain⟨v,r,j,C,I⟩:=h;exact⟨v,r,j,hp p Xah v C,Zmo (λq J=>hp q (Xai _ J)) I⟩
def ZkB {p:PV} (hn:ZhW p=true) {v:Value} (j:VRel φ w S p v):VRel φ' w S p v:=by
 cases p<;>simp only[ZhW]at hn<;>try (cases hn;done)
 case func f x y=>
  simp[Xas,List.isEmpty_iff]at hn
  obtain⟨rfl,rfl⟩:=hn
  simpa only[VRel,VL]using j
 case agg cs=>
  let⟨arr,C,I,J⟩:=j
  refine⟨arr,C,I,Zmo (λq R v j=> ?_) J⟩
  have:=XaH.1 hn q R
  cases q<;>simp[]at this<;>first|(cases this;done)|(simpa only[VRel]using j)
 case tup vs=>
  simp[List.isEmpty_iff]at hn
  subst hn
  simpa only[VRel,VL]using j
 all_goals simpa only[VRel]using j
def ZvF: ∀ {l:List PV} {b o:Nat},(∀p∈l,ZhW p=true)->VC φ w S l b o->VC φ' w S l b o
 | [],_,_,_,_=>trivial
 |p::ps,b,o,hn,h=>by obtain⟨⟨j,v,C,I⟩,J⟩:=h;exact⟨⟨j,v,C,ZkB (hn p Xah) I⟩,ZvF (λq R=>hn q (Xai _ R)) J⟩
def ZuD: ∀ {l:List (List PV)} {b o:Nat},(∀c∈l,∀p∈c,ZhW p=true)->VE φ w S l b o->VE φ' w S l b o
 | [],_,_,_,_=>trivial
 |c::cs,b,o,hn,h=>⟨ZvF (hn c Xah) h.1,ZuD (λq j=>hn q (Xai _ j)) h.2⟩
theorem ZtU: ∀ {l:List (PV×PV)} {es:List MapEntry},(∀x∈l,ZhW x.1=true/\ZhW x.2=true)->VM φ w S l es->VM φ' w S l es
 | [],_,_,h=>h
 |(k,v)::r,es,hn,h=>by obtain⟨e,j,C,I,J,R⟩:=h;have:=hn (k,v) Xah;exact⟨e,j,C,ZkB this.1 I,ZkB this.2 J,ZtU (λq U=>hn q (Xai _ U)) R⟩
def reφ (φ:Phi) (ids:List Nat):Phi:=λi=>(ids[i]?).bind φ
theorem ZlV {i:Nat}: ∀ {l:List Nat},i∈l->l[pos i l]? =some i
 |j::r,h=>by simp only[pos];by_cases C:i=j;subst C;simp;have:Nat.beq i j=false:=(by cases I:Nat.beq i j with|true=>exact absurd (Xay I) C|false=>rfl);rw[this,cond_false];rcases XaF.1 h with h|h;exact absurd h C;simpa using ZlV h
def Zvh {ids:List Nat} {p:PV} (C: ∀i∈Zf4 p,i∈ids) (j:Zg7 p=true) {v:Value} (I:VRel φ w S p v):VRel (reφ φ ids) w S (Zvq ids p) v:=by
 have key: ∀ {i:Nat} {l:Loc},i∈ids->φ i=some l->reφ φ ids (pos i ids)=some l:=λhi hl=>by grind [reφ,ZlV]
 cases p<;>simp[Zg7]at j<;>try (cases j;done)
 case ref id i n room=>
  grind [Zvq,VRel,Zf4]
 case ptr id i r=>
  grind [Zvq,VRel,Zf4]
 case map id=>
  grind [Zvq,VRel,Zf4]
 all_goals simpa only[Zvq,VRel]using I
def ZhP {ids:List Nat}: ∀ {l:List PV} {vs:List Value},(∀p∈l,(∀i∈Zf4 p,i∈ids)/\Zg7 p=true)->VL φ w S l vs->VL (reφ φ ids) w S (l.map (Zvq ids)) vs
 | [],_,_,h=>by simpa only[XbX,VL]using h
 |p::ps,_,hp,h=>by simp only[VL]at h;obtain⟨v,r,j,C,I⟩:=h;have:=hp p Xah;simp only[Xbm,VL];exact⟨v,r,j,Zvh this.1 this.2 C,ZhP (λq J=>hp q (Xai _ J)) I⟩
theorem ZBy (ids:List Nat) (p:PV):ZcZ (Zvq ids p)=ZcZ p:=by cases p<;>rfl
def Zor {ids p} (j: ∀i∈ZcP p,i∈ids) (C:Zb1 p=true) {v} (J:VRel φ w S p v):VRel (reφ φ ids) w S (ren ids p) v:=by
 cases p<;>simp only[Zb1,ZcP]at C j;case agg cs=>
  let⟨arr,R,h2,U⟩:=J
  refine⟨arr,R, ?_,ZhP (λq I=>⟨λi hi=>j i (Xbg.2 ⟨q,I,hi⟩),XaH.1 C q I⟩) U⟩
  grind [ZBy]
 case func f x y=>
  simp[XaH]at C
  let⟨fs,cs,R,h2,U⟩:=J
  exact⟨fs,cs,R,ZhP (λq I=>⟨λi hi=>j i (Xbu _ (Xbg.2 ⟨q,I,hi⟩)),C.1 q I⟩) h2,
   ZhP (λq I=>⟨λi hi=>j i (XbH _ (Xbg.2 ⟨q,I,hi⟩)),C.2 q I⟩) U⟩
 case tup vs=>
  simp at C
  subst C
  simpa only[ren,Zvq,VRel,VL]using J
 all_goals (simp[ren];exact Zvh j rfl J)
def Zc3: ∀ (xs ids:List Nat),ids.Nodup->(xs.foldl Zcl ids).Nodup/\(∀i∈ids,i∈xs.foldl Zcl ids)/\ ∀i∈xs,i∈xs.foldl Zcl ids
 | [],ids,hn=>⟨hn,λ_ h=>h,sM⟩
 |x::xs,ids,hn=>by
  have j:(Zcl ids x).Nodup:=(by grind [Zcl,List.nodup_append]);have C: ∀i∈ids,i∈Zcl ids x:=by grind [Zcl,Xbu]
  have I:x∈Zcl ids x:=(by grind [Zcl]);(let⟨J,R,U⟩:=Zc3 xs (Zcl ids x) j);grind
def Zsw ids: ∀ (tm:List (Nat×PV)) (t:Nat),get (tm.map λx=>(x.1,ren ids x.2)) t=(get tm t).map (ren ids)
 | [],t=>rfl
 |(j,v)::r,t=>by rw[Xbm,ZcU,ZcU,Zsw ids r t];split<;>rfl
def Zxi: ∀ {tm:List (Nat×PV)} {t:Nat} {p:PV},get tm t=some p->(t,p)∈tm
 | [],t,p,h=>by simp[ZnM]at h
 |(j,v)::r,t,p,h=>by rw[ZcU]at h;split at h;grind;exact Xai _ (Zxi h)
def Zr4 {α β:Type} {f}: ∀ {l:List α} {r:List β},Za3 f l=some r->r.length=l.length/\ ∀i:Nat,r[i]? =(l[i]?).bind f
 | [],r,h=>by simp[ZcA]at h;subst h;simp
 |x::l,r,h=>by obtain⟨b,s,j,C,rfl⟩:=ZaM h;(let⟨I,J⟩:=Zr4 C);refine⟨by simp[I],λi=> ?_⟩;cases i with|zero=>simp[j]|succ i=>simpa using J i
def Zid H: ∀ (n:Nat) (ids:List Nat),ids.Nodup->(Zfc H n ids).Nodup/\ ∀i∈ids,i∈Zfc H n ids
 |0,_,hn=>⟨hn,λ_ h=>h⟩
 |n+1,ids,hn=>by(let⟨j,C,_⟩:=Zc3 (ids.flatMap (ZrM H)) ids hn);(let⟨I,J⟩:=Zid H n _ j);exact⟨I,λi hi=>J i (C i hi)⟩
def ZGO ids p:ZcZ (ren ids p)=ZcZ p:=by cases p<;>rfl
def ZEE {ids}: ∀ {l:List PV} {b o:Nat},(∀p∈l,Zb1 p=true/\ ∀i∈ZcP p,i∈ids)->VC φ w S l b o->VC (reφ φ ids) w S (l.map (ren ids)) b o
 | [],_,_,_,_=>trivial
 |p::ps,b,o,hn,h=>by(let⟨⟨j,v,C,I⟩,J⟩:=h);have:=hn p Xah;exact⟨⟨by rw[ZGO];exact j,v,C,Zor this.2 this.1 I⟩,ZEE (λq R=>hn q (Xai _ R)) J⟩
def ZEc {ids}: ∀ {l:List (List PV)} {b o:Nat},(∀c∈l,∀p∈c,Zb1 p=true/\ ∀i∈ZcP p,i∈ids)->VE φ w S l b o->VE (reφ φ ids) w S (l.map λc=>c.map (ren ids)) b o
 | [],_,_,_,_=>trivial
 |c::cs,b,o,hn,h=>⟨ZEE (hn c Xah) h.1,by have:=ZEc (λq j=>hn q (Xai _ j)) h.2;simpa using this⟩
theorem ZEu {ids}: ∀ {l:List (PV×PV)} {es:List MapEntry},(∀x∈l,(Zb1 x.1=true/\ ∀i∈ZcP x.1,i∈ids)/\(Zb1 x.2=true/\ ∀i∈ZcP x.2,i∈ids))->VM φ w S l es->VM (reφ φ ids) w S (l.map λx=>(ren ids x.1,ren ids x.2)) es
 | [],_,_,h=>h
 |(k,v)::r,es,hn,h=>by(let⟨e,j,C,I,J,R⟩:=h);have:=hn (k,v) Xah;exact⟨e,j,C,Zor this.1.2 this.1.1 I,Zor this.2.2 this.2.1 J,ZEu (λq U=>hn q (Xai _ U)) R⟩
def ZBY {ids m es z b} (C:ZsS ids m= .row es z b) (J:okM m=true) (R: ∀i∈ZpE m,i∈ids) {l} (I: ∀es z b,m= .row es z b->RowAt φ w S l es z b):RowAt (reφ φ ids) w S l es z b:=by unfold ZsS at C;cases hf:Zmf m with|true=>rw[hf,cond_true]at C;have j:=I es z b C;refine⟨j.zs,j.top,j.wid,ZuD (λc U p hp=> ?_) j.cells,j.blk,j.own,j.frz⟩;grind [Zmf,XaH]|false=>rw[hf,cond_false]at C;cases m with|row aa z0 b0=>simp at C;obtain⟨rfl,rfl,rfl⟩:=C;have j:=I aa z0 b0 rfl;simp[okM,hf]at J;simp only[ZpE,hf,cond_false,Xbg]at R;refine⟨j.zs,by simpa using j.top, ?_,ZEc (λc U p hp=>⟨J c U p hp,λi hi=>R i ⟨c,U,p,hp,hi⟩⟩) j.cells,j.blk,j.own,j.frz⟩;intro c U;obtain⟨c0,ab,rfl⟩:=XaT.1 U;simpa using j.wid c0 ab|map _=>cases C|dead=>cases C
def Zud {ids m es} (C:ZsS ids m= .map es) (I:okM m=true) (J: ∀i∈ZpE m,i∈ids) {l}: ∃j,m= .map j/\(VM φ w S j l->VM (reφ φ ids) w S es l):=by unfold ZsS at C;cases hf:Zmf m with|true=>grind [ZtU,Zmf]|false=>rw[hf,cond_false]at C;cases m with|map j=>grind [okM,ZpE,ZEu]|row _ _ _=>cases C|dead=>cases C
def Zmy ids m:(ZsS ids m).alive=m.alive:=by unfold ZsS;cases Zmf m with|true=>rfl|false=>cases m<;>rfl
def Zh2 {st} (I:Zfh tm H=some st) (hI:Inv φ H w S B) (ht:TRel φ w S N tm a): ∃φ',Inv φ' st.hp w S B/\TRel φ' w S N st.tm a:=by
 unfold Zfh at I;simp only[]at I;split at I;rename_i af;let⟨au,_,ag⟩:=Zc3 (tm.flatMap λx=>ZcP x.2) [] List.nodup_nil
 let⟨hn,ah⟩:=Zid H 3 _ au
 have ai: ∀i∈tm.flatMap λx=>ZcP x.2,i∈Zfc H 3 ((tm.flatMap λx=>ZcP x.2).foldl Zcl []):=λi hi=>ah i (ag i hi)
 generalize Zfc H 3 ((tm.flatMap λx=>ZcP x.2).foldl Zcl [])=ids at I hn ai;cases ho:Za3 (λi=>(H[i]?).bind λm=>if okM m&&(ZpE m).all ids.contains then some (ZsS ids m)else none) ids with
  |none=>rw[ho]at I;cases I
  |some H'=>
   rw[ho]at I;simp[Xaj]at I;subst I;(let⟨hlen,bc⟩:=Zr4 ho);have hm: ∀ (i:Nat) (m:Mem),H'[i]? =some m-> ∃id m0,ids[i]? =some id/\H[id]? =some m0/\m=ZsS ids m0/\okM m0=true/\ ∀j∈ZpE m0,j∈ids:=by grind
   have C: ∀i l,reφ φ ids i=some l-> ∃id,ids[i]? =some id/\φ id=some l:=λi l h=>Zam h
   refine⟨reφ φ ids,⟨?_, ?_, ?_, ?_,hI.stable,hI.base,hI.laid⟩,ht.1,ht.2.1, ?_⟩;intro i l hl;(let⟨id,J,R⟩:=C i l hl);have:=hI.live id l R;have bf:=(Xaf.1 J).1;exact⟨this.1,this.2.1,by show i<H'.length;omega⟩;intro i l es z m hl ad;(let⟨id,J,R⟩:=C i l hl);(let⟨ae,m0,U,h4,h5,h6,h7⟩:=hm i _ ad);rw[J]at U;cases U;exact ZBY h5.symm h6 h7 λes z b e=>hI.row id l es z b R (by rw[h4,e]);intro i l es hl ad;(let⟨id,J,R⟩:=C i l hl);(let⟨ae,m0,U,h4,h5,h6,h7⟩:=hm i _ ad);rw[J]at U;cases U;obtain⟨av,rfl,_⟩:=Zud (φ:=φ) (w:=w) (S:=S) (l:=[]) h5.symm h6 h7;(let⟨h8,aa,clock,h9,aj⟩:=hI.map id l av R h4);(let⟨bg,aw,ax⟩:=Zud (φ:=φ) (w:=w) (S:=S) (l:=aa.toList) h5.symm h6 h7);cases aw;exact⟨h8,aa,clock,h9,ax aj.1,aj.2⟩;intro i i' l l' m m' ay hl az a1 ak ha al;(let⟨id,J,R⟩:=C i l hl);(let⟨ae,an,a6⟩:=C i' l' az);(let⟨x,m0,U,h4,h5,_⟩:=hm i _ a1);(let⟨x',a7,ao,a8,ba,_⟩:=hm i' _ ak);rw[J]at U;cases U;rw[an]at ao;cases ao;refine hI.apart id ae l l' m0 a7 ?_ R a6 h4 a8 (by rw[h5,Zmy]at ha;exact ha) (by rw[ba,Zmy]at al;exact al);rintro rfl;have e1:=Xaf.1 J;have e2:=Xaf.1 an;(let⟨g1,g2⟩:=e1);(let⟨aq,ar⟩:=e2);rcases Nat.lt_or_gt_of_ne ay with h9|h9;exact List.pairwise_iff_getElem.1 hn i i' g1 aq h9 (g2.trans ar.symm);exact List.pairwise_iff_getElem.1 hn i' i aq g1 h9 (ar.trans g2.symm);intro i p hp;rw[Zsw]at hp;cases hg:get tm i with|none=>simp[hg]at hp|some q=>simp[hg,Xau]at hp;subst hp;(let⟨J,R⟩:=ht.2.2 i q hg);have ab:=Zxi hg;have bb:=XaH.1 af _ ab;exact⟨J,Zor (λj hj=>ai j (Xbg.2 ⟨_,ab,hj⟩)) bb R⟩
 cases I
def Ze4 {c k s st} (hm:ZfN k c s=some st) (hI:Inv φ s.hp w S B) (C:TRel φ w S N s.tm a) (j:c.base<=s.hp.length):
 ∃φ',Inv φ' st.hp w S B/\TRel φ' w S N st.tm a/\c.base<=st.hp.length/\Evo c.base B φ S w φ' S w:=by unfold ZfN at hm;split at hm;grind [Evo.refl];rename_i ks comp;cases comp with|true=>(let⟨U,hm⟩:=Zau hm);(let⟨φ',I,J⟩:=Zh2 hm hI (Zp7 C ks));exact⟨φ',I,J,oM,⟨λid l hid=>oM,λb j=>⟨j,rfl⟩,λb _ R=>R,Below.refl _ _⟩⟩|false=>grind [Xaj,Zp7,Evo.refl]
end
variable [Laid]
def FrzM (m j:Mem):Prop:=j=m\/ ∃es z b,m= .row es z b/\j= .row es z false
section
variable {w w':World} {φ φc φ':Phi} {S Sc S':Nat->Prop} {B base:Nat} {Hs Hc:List Mem}
def Zxo (I: ∀id l,φc id=some l->φ' (base+id)=some l) {p:PV} {v:Value} (J:Zq3 p=true\/ ∀b,Sc b->S' b) (j:Zg7 p=true) (C:VRel φc w' Sc p v):VRel φ' w' S' (sh1 base p) v:=by
 cases p<;>simp[Zg7]at j<;>try (cases j;done)
 case ref id i n room=>
  grind [sh1,VRel]
 case ptr id i r=>
  grind [sh1,VRel]
 case map id=>
  grind [sh1,VRel]
 case lst es=>
  grind [sh1,VRel,Zq3,List.isEmpty_iff,IRel,IRel.mono]
 case box cs r=>
  grind [sh1,VRel,Zq3,IRel.mono]
 all_goals simpa only[sh1,VRel]using C
def Zkr (j: ∀id l,φc id=some l->φ' (base+id)=some l): ∀ {l:List PV} {vs:List Value},(∀p∈l,(Zq3 p=true\/ ∀b,Sc b->S' b)/\Zg7 p=true)->VL φc w' Sc l vs->VL φ' w' S' (l.map (sh1 base)) vs
 | [],_,_,h=>by simpa only[XbX,VL]using h
 |p::ps,_,hp,h=>by simp only[VL]at h;obtain⟨v,r,C,I,J⟩:=h;have:=hp p Xah;simp only[Xbm,VL];exact⟨v,r,C,Zxo j this.1 this.2 I,Zkr j (λq R=>hp q (Xai _ R)) J⟩
def Zvw (J: ∀id l,φc id=some l->φ' (base+id)=some l) {p:PV} {v:Value} (U:ZgU p=true\/ ∀b,Sc b->S' b) (j:Zb1 p=true) (R:VRel φc w' Sc p v):VRel φ' w' S' (sh base p) v:=by
 cases p<;>simp only[Zb1]at j;case agg cs=>
  let⟨arr,h1,h2,h3⟩:=R
  refine⟨arr,h1, ?_,Zkr J (λq C=>⟨U.imp (λh=>XaH.1 h q C) id,XaH.1 j q C⟩) h3⟩
  intro c hc
  obtain⟨q,C,rfl⟩:=XaT.1 hc
  have:=h2 q C
  cases q<;>first|rfl|(simp[ZcZ]at this)
 case func f x y=>
  simp[Xas,XaH]at j
  let⟨fs,cs,h1,h2,h3⟩:=R
  have I:=U.imp (λh=>by simpa only[ZgU,Xas]using h) id
  exact⟨fs,cs,h1,Zkr J (λq C=>⟨I.imp (λh=>XaH.1 h.1 q C) id,j.1 q C⟩) h2,Zkr J (λq C=>⟨I.imp (λh=>XaH.1 h.2 q C) id,j.2 q C⟩) h3⟩
 case tup vs=>
  simp[List.isEmpty_iff]at j
  subst j
  simpa only[sh,sh1,VRel,VL]using R
 all_goals (simp[sh];exact Zxo J U rfl R)
def ZJM p:ZcZ (sh base p)=ZcZ p:=by cases p<;>rfl
def ZJ1 (j: ∀id l,φc id=some l->φ' (base+id)=some l): ∀ {l:List PV} {vs:List Value},(∀p∈l,(ZgU p=true\/ ∀b,Sc b->S' b)/\Zb1 p=true)->VL φc w' Sc l vs->VL φ' w' S' (l.map (sh base)) vs
 | [],_,_,h=>by simpa only[XbX,VL]using h
 |p::ps,_,hp,h=>by simp only[VL]at h;(let⟨v,r,C,I,J⟩:=h);have:=hp p Xah;simp only[Xbm,VL];exact⟨v,r,C,Zvw j this.1 this.2 I,ZJ1 j (λq R=>hp q (Xai _ R)) J⟩
def ZI9 (j: ∀id l,φc id=some l->φ' (base+id)=some l): ∀ {l:List PV} {b o:Nat},(∀p∈l,(ZgU p=true\/ ∀b,Sc b->S' b)/\Zb1 p=true)->VC φc w' Sc l b o->VC φ' w' S' (l.map (sh base)) b o
 | [],_,_,_,_=>trivial
 |p::ps,b,o,hn,h=>by(let⟨⟨C,v,I,J⟩,R⟩:=h);have:=hn p Xah;exact⟨⟨by rw[ZJM];exact C,v,I,Zvw j this.1 this.2 J⟩,ZI9 j (λq U=>hn q (Xai _ U)) R⟩
def ZIz (j: ∀id l,φc id=some l->φ' (base+id)=some l): ∀ {l:List (List PV)} {b o:Nat},(∀c∈l,∀p∈c,(ZgU p=true\/ ∀b,Sc b->S' b)/\Zb1 p=true)->VE φc w' Sc l b o->VE φ' w' S' (l.map λc=>c.map (sh base)) b o
 | [],_,_,_,_=>trivial
 |c::cs,b,o,hn,h=>⟨ZI9 j (hn c Xah) h.1,by have:=ZIz j (λq C=>hn q (Xai _ C)) h.2;simpa using this⟩
def ZJ8 (j: ∀id l,φc id=some l->φ' (base+id)=some l): ∀ {l:List (PV×PV)} {es:List MapEntry},(∀x∈l,((ZgU x.1=true\/ ∀b,Sc b->S' b)/\Zb1 x.1=true)/\((ZgU x.2=true\/ ∀b,Sc b->S' b)/\Zb1 x.2=true))->VM φc w' Sc l es->VM φ' w' S' (l.map λx=>(sh base x.1,sh base x.2)) es
 | [],_,_,h=>h
 |(k,v)::r,es,hn,h=>by(let⟨e,C,I,J,R,U⟩:=h);have:=hn (k,v) Xah;exact⟨e,C,I,Zvw j this.1.1 this.1.2 J,Zvw j this.2.1 this.2.2 R,ZJ8 j (λq hq=>hn q (Xai _ hq)) U⟩
def ZpW {ps us} (hI:Inv φ Hs w S B) (hb:Below w.heap.size w w') (J:Inv φc Hc w' Sc w.heap.size)
 (bl: ∀ (j:Nat) (m:Mem),(Hc.map (shM base))[j]? =some m-> ∃m',Hs[base+j]? =some m'/\FrzM m m'/\φ (base+j)=none) (an:Hc.all ZHA=true)
 (aj:(Hc.all ZsE=true/\ ∀y∈ps,ZgU y=true)\/ ∀b,b<w.heap.size->Sc b->S b) (a6:VL φc w' Sc ps us) (ao: ∀y∈ps,Zb1 y=true):
 ∃φ' S',Inv φ' Hs w' S' B/\Evo Hs.length B φ S w φ' S' w'/\VL φ' w' S' (ps.map (sh base)) us/\ ∀i,¬ (base<=i/\i<base+Hc.length)->φ' i=φ i:=by
 let φ':Phi:=λi=>if base<=i/\i<base+Hc.length then φc (i-base)else φ i
 let S':Nat->Prop:=λb=>S b\/(w.heap.size<=b/\b<w'.heap.size/\(Sc b\/ ∃ (j:Nat) (l:Loc) (es:List (List PV)) (z:Nat),φc j=some l/\l.b=b/\Hs[base+j]? =some (.row es z false)))
 have aq: ∀b,S' b->b<w'.heap.size:=λb h=>h.elim (λh=>XaW (hI.stable b h) hb.size) (λh=>h.2.1)
 let⟨ag,ak⟩:=hI.ext (S':=S') hb (λb h=> .inl h) aq (λb ar h=>h.elim id (λh=>oM))
 have aa: ∀ {i},base<=i/\i<base+Hc.length->φ' i=φc (i-base):=λ{i} h=>if_pos h
 have C: ∀ {i},¬ (base<=i/\i<base+Hc.length)->φ' i=φ i:=λ{i} h=>if_neg h
 have at_: ∀j,j<Hc.length-> ∃m m',Hc[j]? =some m/\Hs[base+j]? =some m'/\FrzM (shM base m) m'/\φ (base+j)=none:=by simp_all
 have hk: ∀id l,φc id=some l->φ' (base+id)=some l:=by intro id l h;have:=(J.live id l h).2.2;rw[aa ⟨oM,oM⟩,show base+id-base=id from by omega];exact h
 have ad:(Hc.all ZsE=true/\ ∀y∈ps,ZgU y=true)\/ ∀b,Sc b->S' b:=by rcases aj with h|h;exact .inl h;refine .inr λb al=> ?_;by_cases ar:b<w.heap.size;exact .inl (h b ar al);exact .inr ⟨oM,J.stable b al, .inl al⟩
 have I: ∀ {m m':Mem},FrzM (shM base m) m'->m'.alive=m.alive:=by intro m m' h;rcases h with rfl|⟨es,z,b,h1,rfl⟩;cases m<;>rfl;cases m<;>simp[shM]at h1;rfl
 have free: ∀ {j l m},φc j=some l->Hc[j]? =some m->m.alive=true-> ¬Sc l.b->(∀es z,Hs[base+j]?≠some (.row es z false))-> ¬S' l.b:=by intro j l m hj hm ha a7 a8 hs;have bm:=J.live j l hj;rcases hs with hs|⟨_,_,hs|⟨j',l',es,z,h1,h2,U⟩⟩;have:=hI.stable _ hs;omega;exact a7 hs;by_cases au:j=j';subst au;exact a8 _ _ U;(let⟨m2,ba,h4,h5,h6,_⟩:=at_ j' (J.live j' l' h1).2.2);rw[U]at h5;cases h5;exact J.apart j j' l l' m m2 au hj h1 hm h4 ha (by rw[<-I h6];rfl) h2.symm
 refine⟨φ',S',⟨?_, ?_, ?_, ?_,aq,ag.base,ag.laid⟩,⟨?_,ak.st,ak.old,ak.below⟩, ?_,λi hi=>C hi⟩;intro i l hl;by_cases hi:base<=i/\i<base+Hc.length;rw[aa hi]at hl;have h1:=J.live _ l hl;let⟨_,m',_,h2,_⟩:=at_ (i-base) oM
 have U:=(Xaf.1 h2).1;have:=hI.base;exact⟨oM,h1.2.1,oM⟩;rw[C hi]at hl;exact ag.live i l hl;intro i l es z m hl hm;by_cases hi:base<=i/\i<base+Hc.length;rw[aa hi]at hl;let⟨mc,m',h1,h2,U,_⟩:=at_ (i-base) oM
 rw[show base+(i-base)=i from by omega,hm]at h2;cases h2;obtain⟨R,m1,rfl,rfl,bb⟩: ∃R m1,mc= .row R z m1/\es=R.map (λc=>c.map (sh base))/\(m=m1\/m=false):=by rcases U with U|⟨es',z',b',U,h4⟩;cases mc<;>simp[shM]at U;obtain⟨rfl,rfl,rfl⟩:=U;exact⟨_,_,rfl,rfl, .inl rfl⟩;cases mc<;>simp[shM]at U;obtain⟨rfl,rfl,rfl⟩:=U;cases h4;exact⟨_,_,rfl,rfl, .inr rfl⟩
 have hr:=J.row _ l R z m1 hl h1;have av:m=true->m1=true:=λh=>by rcases bb with h'|h'<;>simp_all
 have aw: ∀c∈R,∀p∈c,(ZgU p=true\/ ∀b,Sc b->S' b)/\Zb1 p=true:=by intro c hc p hp;have g1:=XaH.1 an _ (XaC h1);simp[ZHA,XaH]at g1;refine⟨ad.imp (λh=> ?_) id,g1 c hc p hp⟩;have g2:=XaH.1 h.1 _ (XaC h1);simp[ZsE,XaH]at g2;exact g2 c hc p hp
 let⟨cur,e,fz,g1,g2,g3⟩:=hr.blk
 have ax:=J.live _ l hl;refine⟨hr.zs,by simpa using hr.top, ?_,ZIz hk aw hr.cells,⟨cur,e,fz,g1,g2,λh=>g3 (av h)⟩, ?_, ?_⟩;intro c hc;obtain⟨c0,bc,rfl⟩:=XaT.1 hc;simpa using hr.wid c0 bc;intro af;refine free hl h1 rfl (hr.own (av af)) ?_;intro es' z' hh;rw[show base+(i-base)=i from by omega,hm]at hh;cases hh;cases af;intro bf;subst bf;exact .inr ⟨ax.1,ax.2.1, .inr ⟨i-base,l,_,z,hl,rfl,by rw[show base+(i-base)=i from by omega];exact hm⟩⟩;rw[C hi]at hl;have hr:=ag.row i l es z m hl hm;have ae: ∀id l,φ id=some l->φ' id=some l:=by intro id l' h;by_cases hid:base<=id/\id<base+Hc.length;(let⟨_,_,_,_,_,h4⟩:=at_ (id-base) oM);rw[show base+(id-base)=id from by omega,h]at h4;cases h4;rw[C hid];exact h
 exact⟨hr.zs,hr.top,hr.wid,VE.mono ae (λb hb=>⟨hb,rfl⟩) _ _ _ rfl hr.cells,hr.blk,hr.own,hr.frz⟩;intro i l es hl hm;by_cases hi:base<=i/\i<base+Hc.length;rw[aa hi]at hl;let⟨mc,m',h1,h2,U,_⟩:=at_ (i-base) oM
 rw[show base+(i-base)=i from by omega,hm]at h2;cases h2;obtain⟨R,rfl,rfl⟩: ∃R,mc= .map R/\es=R.map (λx=>(sh base x.1,sh base x.2)):=by rcases U with U|⟨es',z',b',U,h4⟩;cases mc<;>simp[shM]at U;exact⟨_,rfl,U⟩;cases h4
 let⟨g1,ah,clock,g2,g3⟩:=J.map _ l R hl h1
 refine⟨free hl h1 rfl g1 ?_,ah,clock,g2,ZJ8 hk (λx hx=> ?_) g3.1,g3.2⟩;intro es' z' hh;rw[show base+(i-base)=i from by omega,hm]at hh;cases hh;have g4:=XaH.1 an _ (XaC h1);simp only[ZHA,XaH,Xas]at g4;have g5:=ad.imp (λh=>by have g6:=XaH.1 h.1 _ (XaC h1);simp only[ZsE,XaH,Xas]at g6;exact g6 x hx) id;exact⟨⟨g5.imp (·.1) id,(g4 x hx).1⟩,⟨g5.imp (·.2) id,(g4 x hx).2⟩⟩;rw[C hi]at hl;let⟨g1,ah,clock,g2,g3⟩:=ag.map i l es hl hm
 have ae: ∀id l,φ id=some l->φ' id=some l:=by intro id l' h;by_cases hid:base<=id/\id<base+Hc.length;(let⟨_,_,_,_,_,h4⟩:=at_ (id-base) oM);rw[show base+(id-base)=id from by omega,h]at h4;cases h4;rw[C hid];exact h
 exact⟨g1,ah,clock,g2,VMc.mono ae (λb hb=>⟨hb,rfl⟩) g3⟩;intro i i' l l' m m' bg hl ab hm ay ha az;by_cases hi:base<=i/\i<base+Hc.length<;>by_cases ai:base<=i'/\i'<base+Hc.length;rw[aa hi]at hl;rw[aa ai]at ab;let⟨mc,m2,h1,h2,U,_⟩:=at_ (i-base) oM
 let⟨bh,ba,bj,a1,bk,_⟩:=at_ (i'-base) oM
 rw[show base+(i-base)=i from by omega,hm]at h2;rw[show base+(i'-base)=i' from by omega,ay]at a1;cases h2;cases a1;exact J.apart _ _ l l' mc bh oM hl ab h1 bj (by rw[<-I U];exact ha) (by rw[<-I bk];exact az);rw[aa hi]at hl;rw[C ai]at ab;have:=J.live _ l hl;have:=hI.live _ l' ab;omega;rw[C hi]at hl;rw[aa ai]at ab;have:=hI.live _ l hl;have:=J.live _ l' ab;omega;rw[C hi]at hl;rw[C ai]at ab;exact ag.apart i i' l l' m m' bg hl ab hm ay ha az;intro id l _ h;by_cases hid:base<=id/\id<base+Hc.length;let⟨_,_,_,_,_,h4⟩:=at_ (id-base) oM
 rw[show base+(id-base)=id from by omega,h]at h4;cases h4;rw[C hid];exact h;exact ZJ1 hk (λp hp=>⟨ad.imp (λh=>h.2 p hp) id,ao p hp⟩) a6
def ZGL (Hs:List Mem) (φ:Phi) (base:Nat) (ms:List Mem):Prop:= ∀ (j:Nat) (m:Mem),ms[j]? =some m-> ∃C,Hs[base+j]? =some C/\FrzM m C/\φ (base+j)=none
def ZeO: ∀ (args:List PV) (i t:Nat) (p:PV),get (enterT i args) t=some p->i<=t/\args[t-i]? =some p
 | [],i,t,p,h=>by simp[enterT,ZnM]at h
 |v::r,i,t,p,h=>by simp[enterT]at h;rw[ZcU]at h;split at h;grind;(let⟨j,C⟩:=ZeO r (i+1) t p h);grind
def Zi1: ∀ (vs:List PV) (k i:Nat),get (enterT k vs) (k+i)=vs[i]?
 | [],k,i=>by simp[enterT,ZnM]
 |v::r,k,i=>by simp[enterT];rw[ZcU];cases i with|zero=>simp|succ i=>rw[if_neg oM,show k+(i+1)=k+1+i from by omega,Zi1 r (k+1) i];simp
theorem Zc9: ∀ (vs:List PV) (k:Nat),(enterT k vs).map (·.2)=vs
 | [],_=>rfl
 |v::r,k=>by simp[enterT,Xbm,Zc9 r (k+1)]
def ZqV {φ:Phi}: ∀ {l:List PV} {vs:List Value},l.length=vs.length->(∀ (i:Nat) (p:PV),l[i]? =some p->VRel φ w S p (vs.getD i undef))->VL φ w S l vs
 | [],vs,h,_=>by have:vs=[]:=(by cases vs<;>simp_all);simp only[VL];exact this
 |p::l,[],h,_=>by simp at h
 |p::l,v::vs,h,j=>by simp only[VL];exact⟨v,vs,rfl,by simpa using j 0 p rfl,ZqV (by simpa using h) λi q C=>by simpa using j (i+1) q (by simpa using C)⟩
def Zpp {tm:List (Nat×PV)} {H:List Mem} {st:St} (j:Zfh tm H=some st): ∃ids,st.tm=tm.map λx=>(x.1,ren ids x.2):=by
 unfold Zfh at j;simp only[]at j;split at j;generalize Zfc H 3 ((tm.flatMap λx=>ZcP x.2).foldl Zcl [])=ids at j;cases ho:Za3 (λi=>(H[i]?).bind λm=>if okM m&&(ZpE m).all ids.contains then some (ZsS ids m)else none) ids with|none=>rw[ho]at j;cases j|some H'=>rw[ho]at j;simp[Xau,Xaj]at j;subst j;exact⟨ids,rfl⟩
 cases j
def ZpJ {φ:Phi} {vs:List PV} {us:List Value} {H:List Mem} {st:St} (C:Zfh (enterT 0 vs) H=some st) (hI:Inv φ H w S B) (I:VL φ w S vs us): ∃φ',Inv φ' st.hp w S B/\VL φ' w S (st.tm.map (·.2)) us:=by
 let⟨φ',R,U⟩:=Zh2 (N:=us.length) (a:={tmps:=us.toArray,defers:=[]}) C hI ⟨sM,rfl,λi p hp=>by(let⟨_,h5⟩:=ZeO vs 0 i p hp);(let⟨u,h6,h7⟩:=VL.get I h5);have hi:=(Xaf.1 h6).1;simp_all⟩
 let⟨ids,j⟩:=Zpp C
 refine⟨φ',R,ZqV ?_ ?_⟩;rw[j,VL.length I];grind [List.length,Zc9];intro i p hp;have hg:get st.tm i=some p:=by rw[j,Zsw];have J:=Zi1 vs 0 i;rw[Xag]at J;rw[J];have h4:(st.tm.map (·.2))[i]? =(vs[i]?).map (ren ids):=(by have:(enterT 0 vs).map ((λx=>x.2)∘λx=>(x.1,ren ids x.2))=vs.map (ren ids):=(by rw[<-Zc9 vs 0,XbG];simp[Zc9]);grind);rw[<-h4];exact hp
 have:=(U.2.2 i p hg).2;simp_all
def Zzv {φ:Phi} {v:PV} {u:Value} (I:VRel φ w S v u): ∃us,VL φ w S (Zcr v) us/\ ∀ (φ':Phi) (w':World) (S':Nat->Prop) (ps:List PV),VL φ' w' S' ps us->VRel φ' w' S' (ZjX v ps) u:=by
 have one:VL φ w S [v] [u]:=by simp only[VL];exact⟨u,[],rfl,I,rfl⟩
 have back: ∀ (φ':Phi) (w':World) (S':Nat->Prop) (ps:List PV),VL φ' w' S' ps [u]-> ∃q,ps=[q]/\VRel φ' w' S' q u:=by intro φ' w' S' ps h;cases ps with|nil=>simp[VL]at h|cons q r=>(let⟨v1,r1,J,C,R⟩:=h);cases J;cases r with|nil=>exact⟨q,rfl,C⟩|cons x y=>simp[VL]at R
 cases v;case tup vs=>
  obtain⟨arr,rfl,C⟩:=I
  refine⟨arr.toList,C,λφ' w' S' ps j=> ?_⟩
  grind [ZjX,VRel]
 all_goals exact⟨[u],one,λφ' w' S' ps j=>by obtain⟨q,rfl,U⟩:=back φ' w' S' ps j;exact U⟩
end
variable [Laid]
def conv:Ex->Exit
 | .normal=> .normal
 | .exit id=> .exit id
 | .ret=> .ret
def ZG3 (H':List Mem) (k B:Nat) (φ:Phi) (S:Nat->Prop) (w:World) (v:PV) (e:Ending) (w':World):Prop:=
 ∃u φ' S',e= .returned u/\Inv φ' H' w' S' B/\Evo k B φ S w φ' S' w'/\VRel φ' w' S' v u
section
variable {P:Program} {h:Hints} {E:Ev}
def Zr9 (P:Program) (E:Ev):Prop:= ∀f args H v H',E.rn f args H=some (v,H')-> ∀φ S w B vals,Inv φ H w S B->VL φ w S args vals->Calls P f vals.toArray w (ZG3 H' H.length B φ S w v)
def Zbk (P:Program) (h:Hints):Prop:= ∀f g,h.prim f=some g-> ∀j v,g j=some v-> ∀ (S:Nat->Prop) w vals,(∀b,S b->b<w.heap.size)->Laid.ok S w->LRel w S j vals->
 Calls P f vals.toArray w λe w'=> ∃u,e= .returned u/\Below w.heap.size w w'/\IRel w' (λb=>S b\/(w.heap.size<=b/\b<w'.heap.size)) v u
variable {w:World} {φ:Phi} {S:Nat->Prop} {B:Nat} {H:List Mem}
def Inv.empty S w (C: ∀b,S b->b<w.heap.size) (I:Laid.ok S w):Inv (λ_=>none) [] w S w.heap.size where
 live:=by intro id l h;cases h
 row:=by intro id l es z m h;cases h
 map:=by intro id l es h;cases h
 apart:=by intro i j l J m R _ h;cases h
 stable:=C
 base:=Xae _
 laid:=I
def ZdN {j vals} (h:LRel w S j vals):VL (λ_=>none) w S j vals:=LRel.toV _ _ h
def ZlI (hE:Zr9 P E) (hP:Zbk P h) (hI:Inv φ H w S B) {f args vals q ms fz base} (R:ZiO h E f args H base=some (q,ms,fz))
 (hv:VL φ w S args vals) (an:ZGL H φ base ms) (ai: ∀id∈fz,∀l es z m,φ id=some l->H[id]? =some (.row es z m)->S l.b):
 Calls P f vals.toArray w (λe w'=> ∃u φ' S',e= .returned u/\Inv φ' H w' S' B/\Evo H.length B φ S w φ' S' w'/\VRel φ' w' S' q u/\ ∀i,¬ (base<=i/\i<base+ms.length)->φ' i=φ i):=by
 unfold ZiO at R;cases hq:Za3 (exp ZaZ H) args with
 |none=>simp[hq]at R
 |some qs=>
  simp[hq,Xad]at R;have C: ∀b,Zdq S φ (args.flatMap (rch ZaZ H)) b->b<w.heap.size:=by rintro b (U|⟨id,_,l,hl,rfl⟩);exact hI.stable b U;exact(hI.live id l hl).2.1
  have J:Laid.ok (Zdq S φ (args.flatMap (rch ZaZ H))) w:=Laid.mono _ _ _ _ (λb U=>⟨.inl U,rfl⟩) hI.laid;have hL:=(ZdI (ZfS hI (args.flatMap (rch ZaZ H)) ZaZ) args qs vals hq hv (λ_ hid=>hid)).1;cases himp:h.imp f with
  |true=>
   rw[himp,cond_true]at R;unfold ZFH at R;cases j:Ze8 E f qs base with
   |none=>simp[j]at R
   |some r=>
    (let⟨v',au,sf⟩:=r);simp[j,Xau]at R;obtain⟨rfl,rfl,rfl⟩:=R;unfold Ze8 at j;(let⟨⟨v,Hc⟩,hg,j⟩:=Zam j);(let⟨st,ao,j⟩:=Zam j);(let⟨aj,j⟩:=Zau j);simp[Prod.mk.injEq]at j;obtain⟨rfl,rfl,rfl⟩:=j;simp only[Xas]at aj;refine(hE f qs [] v Hc hg _ _ w w.heap.size vals (Inv.empty _ w C J) (ZdN hL)).mono ?_;rintro e w' ⟨u,φc,Sc,rfl,ab,ad,ak⟩;(let⟨us,h1,h2⟩:=Zzv ak);(let⟨av,h3,h4⟩:=ZpJ ao ab h1);let⟨φ',S',h5,h6,h7,h8⟩:=ZpW hI ad.below h3 an aj.2 (by
       cases ag:((st.tm.all λy=>ZgU y.2)&&st.hp.all ZsE)with
       |true=>simp only[Xas,XaH]at ag;refine .inl ⟨XaH.2 ag.2,λy hy=> ?_⟩;obtain⟨x,hx,rfl⟩:=XaT.1 hy;exact ag.1 x hx
       |false=>
        refine .inr λb aa U=> ?_;rw[ag,cond_false]at ai;rcases ad.old b aa U with hs|⟨id,hid,l,hl,rfl⟩;exact hs;(let⟨x,_,hx⟩:=Xbg.1 hid);(let⟨es,z,m,ae⟩:=Zlu _ _ _ hx);exact ai id hid l es z m hl ae) h4 (λy hy=>by
        obtain⟨x,hx,rfl⟩:=XaT.1 hy;exact XaH.1 aj.1 x hx)
    refine⟨u,φ',S',rfl,h5,h6,h2 φ' w' S' _ ?_,λi hi=>h8 i (by simpa using hi)⟩;rw[XbG]at h7;exact h7
  |false=>
  rw[himp,cond_false]at R;unfold ZrS at R;have main: ∀r,ZbZ h E f qs=some r->
   Calls P f vals.toArray w (λe w'=> ∃u S2,e= .returned u/\Below w.heap.size w w'/\IRel w' S2 r u/\(∀b,S2 b->b<w'.heap.size/\(b<w.heap.size->Zdq S φ (args.flatMap (rch ZaZ H)) b))):=by
   intro r j;unfold ZbZ at j;cases hp:h.prim f with
   |some g=>
    simp[hp]at j;cases hg:g qs with
    |none=>simp[hg]at j
    |some v=>
     simp[hg,Xad]at j;refine(hP f g hp qs v hg _ w vals C J hL).mono ?_;rintro e w' ⟨u,rfl,U,af⟩;have ah: ∀b,(Zdq S φ (args.flatMap (rch ZaZ H)) b\/(w.heap.size<=b/\b<w'.heap.size))->b<w'.heap.size:=
      λb I=>I.elim (λh'=>XaW (C b h') U.size) (λh'=>h'.2)
     have:=(ZfS (Inv.empty _ w' ah (Laid.mono _ _ _ _ (λb I=>⟨.inl I,U.block b (C b I)⟩) J)) [] ZaZ v r u j (IRel.toV _ _ af) (by intro id hid;have:=Zut ZaZ v id hid;simp at this)).1;refine⟨u,_,rfl,U,IRel.mono (λb I=>⟨I.elim id (by rintro⟨id,hid,_⟩;simp at hid),rfl⟩) _ _ this,λb I=>⟨ah b I,λaa=>I.elim id (λh'=>oM)⟩⟩
   |none=>simp[hp]at j;cases hg:E.rn f qs []with|none=>simp[hg]at j|some x=>(let⟨v,Hc⟩:=x);simp[hg,Xad]at j;refine(hE f qs [] v Hc hg _ _ w w.heap.size vals (Inv.empty _ w C J) (ZdN hL)).mono ?_;rintro e w' ⟨u,φc,Sc,rfl,ab,ad,ak⟩;have hx:=(ZfS ab (rch ZaZ Hc v) ZaZ v r u j ak (λ_ hid=>hid)).1;refine⟨u,_,rfl,ad.below,hx, ?_⟩;rintro b (U|⟨id,_,l,hl,rfl⟩);exact⟨ab.stable b U,λaa=>ad.old b aa U⟩;have:=ab.live id l hl;exact⟨this.2.1,λaa=>oM⟩
  cases j:ZbZ h E f qs with|none=>simp[j]at R|some r=>simp[j,Xad]at R;by_cases hm:h.mem f=true;rw[if_pos hm]at R;cases R;refine(main _ j).mono ?_;rintro e w' ⟨u,S2,rfl,U,af,al⟩;(let⟨h1,h2⟩:=hI.foreign U);refine⟨u,φ,_,rfl,h1,h2,IRel.toV _ _ (IRel.mono (λb I=>⟨?_,rfl⟩) _ _ af),λ_ _=>rfl⟩;(let⟨aa,hold⟩:=al b I);by_cases aq:b<w.heap.size;rcases hold aq with hs|⟨id,hid,l,hl,rfl⟩;exact .inl hs;(let⟨x,_,hx⟩:=Xbg.1 hid);(let⟨es,z,m,ae⟩:=Zlu _ _ _ hx);exact .inl (ai id hid l es z m hl ae);exact .inr ⟨oM,aa⟩;rw[if_neg hm]at R;(let⟨ar,R⟩:=Zau R);cases R;refine(main _ j).mono ?_;rintro e w' ⟨u,S2,rfl,U,af,al⟩;(let⟨h1,h2⟩:=hI.foreign U);exact⟨u,φ,_,rfl,h1,h2,IRel.toV _ _ (ZvO ar af),λ_ _=>rfl⟩
variable {o:Oper} {a:Act} {K:Act->World->Prop} {Q:Exit->Act->World->Prop}
def ZDD {s u w'} (h:s.run P w= .ok u w'):(do pure (Next.value (<-s)):Sem Next).run P w= .ok (.value u) w':=by simp[h]
def Zdi {u w'} (h:(execOp a.eval o).run P w= .ok (.value u) w') (j:K (a.put o.dst u) w'):o.wp P a w K Q:=by unfold Oper.wp;rw[h];exact j
def Zhw {f args} (h:(execOp a.eval o).run P w= .ok (.enter f args) w) (j:Calls P f args w λe w'=> ∃u,e= .returned u/\K (a.put o.dst u) w'):o.wp P a w K Q:=by unfold Oper.wp;rw[h];refine j.mono ?_;grind
def ZdH {x v ms fz} (h:val x=some (v,ms,fz)):x=some v/\ms=[]/\fz=[]:=by unfold val at h;cases x with|none=>simp at h|some y=>simp at h;obtain⟨rfl,rfl,rfl⟩:=h;exact⟨rfl,rfl,rfl⟩
def ZEJ (P:Program) (f:FuncId):Prop:= ∃fn,P.funcs[f]? =some fn/\fn.body.isSome=true/\(fn.name== "runtime.NumGoroutine")=false
def ZfT {f} (hf:ZEJ P f) args:(callFunc f args).run P w= .ok (.enter f args) w:=by
 let⟨fn,j,J,C⟩:=hf
 have I:fn.body.isNone=false:=by cases R:fn.body<;>simp_all
 simp only[callFunc,Sem.run_bind,run_program,Result.andThen_ok,j,C,I,Xbh,if_false,Sem.run_pure]
end
variable [Laid]
structure Good (P:Program) (h:Hints) (E:Ev):Prop where
 rn:Zr9 P E
 prim:Zbk P h
 len: ∀f args H v H',E.rn f args H=some (v,H')->H.length<=H'.length
 fnOk: ∀f,(∃args H r,E.rn f args H=some r)\/(h.prim f).isSome=true->ZEJ P f
def simM:Mem->Mem->Prop
 | .row es z _, .row es' z' _=>es=es'/\z=z'
 | .map es, .map es'=>es=es'
 | .dead, .dead=>True
 |_,_=>False
theorem simM.refl m:simM m m:=by cases m<;>simp[simM]
section
variable {P:Program} {h:Hints} {E:Ev} {w:World} {φ:Phi} {S:Nat->Prop} {B:Nat} {H:List Mem} {tm:List (Nat × PV)} {N:Nat} {o:Oper} {a:Act} {K:Act->World->Prop} {Q:Exit->Act->World->Prop}
def Zsg (hG:Good P h E) {f C q} (j:ZbZ h E f C=some q):ZEJ P f:=by unfold ZbZ at j;cases hp:h.prim f with|some g=>exact hG.fnOk f (.inr (by simp[hp]))|none=>simp[hp]at j;cases I:E.rn f C []with|none=>simp[I]at j|some r=>exact hG.fnOk f (.inl ⟨_,_,_,I⟩)
def Zth (hG:Good P h E) {f:FuncId} {args:List PV} {base:Nat} {r:PV×List Mem×List Nat} (j:ZiO h E f args H base=some r):ZEJ P f:=by unfold ZiO at j;cases C:Za3 (exp ZaZ H) args with|none=>simp[C]at j|some I=>simp[C,Xad]at j;cases himp:h.imp f with|true=>(rw[himp,cond_true]at j;unfold ZFH Ze8 at j;cases J:E.rn f I []with|none=>simp[J]at j|some r=>exact hG.fnOk f (.inl ⟨_,_,_,J⟩))|false=>rw[himp,cond_false]at j;unfold ZrS at j;cases R:ZbZ h E f I with|none=>simp[R]at j|some q=>exact Zsg hG R
def Zro: ∀ (l:List PV) (x p:PV) (vs:List Value) (v:Value),Zj7 min2 l x=some p->VL φ w S l vs->VRel φ w S x v-> ∃u,(vs.foldlM Builtin.min2 v).run P w= .ok u w/\VRel φ w S p u
 | [],x,p,vs,v,h,C,I=>by simp[Zj7]at h;subst h;simp[VL]at C;subst C;exact⟨v,rfl,I⟩
 |y::l,x,p,vs,v,h,C,I=>by simp[Zj7]at h;cases j:min2 x y with|none=>simp[j]at h|some z=>simp[j,Xad]at h;obtain⟨u,r,rfl,hu,R⟩:=C;unfold min2 at j;split at j;rename_i k a k' b;(let⟨hk,J⟩:=Zau j);cases J;subst I;subst hu;(let⟨u,U,h3⟩:=Zro l _ p r (.int k (if b<a then b else a)) h R (ZbG _ _));exact⟨u,by simp[Builtin.min2,U],h3⟩;cases j
def Zph: ∀ (l:List PV) (x p:PV) (vs:List Value) (v:Value),Zj7 max2 l x=some p->VL φ w S l vs->VRel φ w S x v-> ∃u,(vs.foldlM Builtin.max2 v).run P w= .ok u w/\VRel φ w S p u
 | [],x,p,vs,v,h,C,I=>by simp[Zj7]at h;subst h;simp[VL]at C;subst C;exact⟨v,rfl,I⟩
 |y::l,x,p,vs,v,h,C,I=>by simp[Zj7]at h;cases j:max2 x y with|none=>simp[j]at h|some z=>simp[j,Xad]at h;obtain⟨u,r,rfl,hu,R⟩:=C;unfold max2 at j;split at j;rename_i k a k' b;(let⟨hk,J⟩:=Zau j);cases J;subst I;subst hu;(let⟨u,U,h3⟩:=Zph l _ p r (.int k (if b>a then b else a)) h R (ZbG _ _));exact⟨u,by simp[Builtin.max2,U],h3⟩;cases j
def Zmk (hI:Inv φ H w S B) {b:Builtin} {ts:Array TypeId} {ty:TypeId} {cs:Array Bool} {vs:List PV} {p:PV} {us:List Value} (j:Zcg P H b ts vs=some p) (J:VL φ w S vs us):
 ∃u,(builtin b ts ty cs us.toArray).run P w= .ok (.value u) w/\VRel φ w S p u:=by
 unfold Zcg at j;split at j;rename_i x;obtain⟨u,r,rfl,hu,rfl⟩:=J;cases R:ts[0]? with|none=>simp[R]at j|some t=>simp[R,Xad]at j;(let⟨v,C,I⟩:=Zsu (ty:=ty) hI R j hu);exact⟨v,by simp[builtin,C],I⟩
 rename_i x r;obtain⟨u,U,rfl,hu,hr⟩:=J;let⟨v,C,I⟩:=Zro (P:=P) r x p U u j hr hu
 exact⟨v,by simp[builtin,Builtin.min_,C],I⟩;rename_i x r;obtain⟨u,U,rfl,hu,hr⟩:=J;let⟨v,C,I⟩:=Zph (P:=P) r x p U u j hr hu
 exact⟨v,by simp[builtin,Builtin.max_,C],I⟩;cases j
def FrzM.sim {m j:Mem} (h:FrzM m j):simM m j:=by rcases h with rfl|⟨es,z,b,rfl,rfl⟩;exact simM.refl _;simp[simM]
def Zyi (hG:Good P h E) {Hs:List Mem} {base:Nat} {v:PV} {ms:List Mem} {fz:List Nat} (hI:Inv φ Hs w S B) (R:TRel φ w S N tm a) (C:opR P h E Hs base (ev tm) o=some (v,ms,fz)) (aj:ZGL Hs φ base ms)
 (au: ∀id∈fz,∀l es z m,φ id=some l->Hs[id]? =some (.row es z m)->S l.b)
 (hK: ∀u w' φ' S',Inv φ' Hs w' S' B->Evo Hs.length B φ S w φ' S' w'->VRel φ' w' S' v u->(∀i,¬ (base<=i/\i<base+ms.length)->φ' i=φ i)->K (a.put o.dst u) w'):o.wp P a w K Q:=by
 have same: ∀ {u:Value},(execOp a.eval o).run P w= .ok (.value u) w->VRel φ w S v u->o.wp P a w K Q:=λhr hv=>
  Zdi hr (hK _ w φ S hI (Evo.refl _ _ _ _ _) hv (λ_ _=>rfl))
 have rdv: ∀ {x:Option PV} {s:Sem Value},val x=some (v,ms,fz)->execOp a.eval o=(do pure (Next.value (<-s)):Sem Next)->(∀p,x=some p-> ∃u,s.run P w= .ok u w/\VRel φ w S p u)->o.wp P a w K Q:=by intro x s U he hs;obtain⟨U,_,_⟩:=ZdH U;obtain⟨u,J,I⟩:=hs v U;exact same (by rw[he];exact ZDD J) I
 have newRow: ∀ {es:List (List PV)} {z:Nat} {cur:Array Value} {e:TypeId} {u:Value} {vs:List Value},ms=[Mem.row es z true]->(execOp a.eval o).run P w= .ok (.value u) (w.alloc (.cells cur e))->(∀c∈es,c.length=z)->VL φ w S es.flatten vs->
  (∀c∈es.flatten,ZcZ c=true)->(∀ (j:Nat) (x:Value),vs[j]? =some x->cur[j]? =some x)->es.length*z<=cur.size->
  (∀φ' S',φ' base=some ⟨w.heap.size,0,z,cur.size⟩->VRel φ' (w.alloc (.cells cur e)) S' v u)->o.wp P a w K Q:=by
  intro es z cur e u vs hm hr hw hv J hc an ao;subst hm;obtain⟨m',ae,af,ab⟩:=aj 0 _ rfl;have aa:=af.sim;simp only[Nat.add_zero]at ae ab;cases m' with|row es' z' b=>simp only[simM]at aa;obtain⟨rfl,rfl⟩:=aa;obtain⟨φ',S',I,h3,h4,h5⟩:=hI.add (fz:=(0,0)) (Zlb w _) ab ae (ZhX w _) hw hv J hc an (by intro j hj;simp);refine Zdi hr (hK _ _ φ' S' I h3 (ao φ' S' h4) ?_);intro i hi;exact h5 i (by rintro rfl;exact hi ⟨Xae _,by simp⟩)|map _=>simp[simM]at aa|dead=>simp[simM]at aa
 unfold opR at C;cases ho:o.op with
 |move x=>simp only[ho]at C;obtain⟨U,_,_⟩:=ZdH C;exact same (by simp[execOp,ho]) (ZaD R U)
 |assign x=>simp only[ho]at C;obtain⟨U,_,_⟩:=ZdH C;exact same (by simp[execOp,ho]) (ZaD R U)
 |pick c x y=>simp only[ho]at C;obtain⟨U,_,_⟩:=ZdH C;unfold Zwt at U;obtain⟨t,J,I⟩:=Zam U;(cases t<;>simp only[]at I<;>try (cases I;done));rename_i b;have hb:=ZaD R J;simp only[VRel]at hb;cases b;exact same (by simp[execOp,ho,hb,asBool]) (ZaD R I);exact same (by simp[execOp,ho,hb,asBool]) (ZaD R I)
 |alloc t=>simp only[ho,Zqg]at C;cases hz:Zek P t with|none=>simp[hz]at C|some cs=>simp only[hz,Xau,Xaj,Prod.mk.injEq]at C;obtain⟨rfl,rfl,rfl⟩:=C;obtain⟨i,zv,hi,ak,hv,J⟩:=Zdn (w:=w) (φ:=φ) (S:=S) hz;refine newRow rfl (u:= .pointer (some ⟨w.heap.size,0,none⟩)) (cur:=zv.cells) (e:=t) (vs:=zv.cells.toList) ?_ (by simp) (by simpa using hv) (by simpa using J) (by simp) (by have:=VL.length hv;simp at this|-;omega) ?_;simp[execOp,ho,Instr.alloc,zeroValue,typeInfo,hi,ak,newVar,Go.newRow];intro φ' S' ab;simp only[VRel];exact⟨_,ab,by simp⟩
 |box t x=>simp only[ho,ZIC]at C;cases hz:(ev tm x).bind Zj3 with|none=>simp[hz]at C|some p=>simp only[hz,Xau,Xaj,Prod.mk.injEq]at C;obtain⟨rfl,rfl,rfl⟩:=C;obtain⟨U,hn⟩:=ZgR hz;obtain⟨hv,J⟩:=Zhq (ZaD R U) hn;refine newRow rfl (u:= .pointer (some ⟨w.heap.size,0,none⟩)) (cur:=(a.eval x).cells) (e:=t) (vs:=(a.eval x).cells.toList) ?_ (by simp) (by simpa using hv) (by simpa using J) (by simp) (by have:=VL.length hv;simp at this|-;omega) ?_;simp[execOp,ho,Instr.box,newVar,Go.newRow];intro φ' S' ab;simp only[VRel];exact⟨_,ab,by simp⟩
 |build t parts=>simp only[ho]at C;refine rdv C (by rw[execOp,ho]) λp hp=> ?_;unfold ZmN at hp;obtain⟨ps,J,I⟩:=Zam hp;exact Zoa I (by have:=Zfz R J;simpa using this)
 |buildSlice t n parts=>simp only[ho,ZcG]at C;obtain⟨ps,J,I⟩:=Zam C;cases hb:ZbM P t n ps with|none=>simp[hb]at I|some m=>simp only[hb,Xau,Xaj,Prod.mk.injEq]at I;obtain⟨rfl,rfl,rfl⟩:=I;obtain⟨es,z,arr,e,rfl,hr,hl,hv,av,hw⟩:=Zjj (P:=P) (ps:=parts.map λ(i,x)=>(i,a.eval x)) hb (by have:=Zfz R J;simpa using this);have ag:arr.size=n*z:=(by have:=VL.length hv;rw[Za5 es hw,hl]at this;simpa using this);refine newRow rfl (u:= .slice (some ⟨w.heap.size,0,none⟩) n n) (cur:=arr) (e:=e) (vs:=arr.toList) ?_ hw hv av (by simp) (by rw[hl,ag];exact Xae _) ?_;simp only[execOp,ho];exact ZDD hr;intro φ' S' ab;simp only[VRel];exact⟨_,_,n,ab,rfl,Xae _,Xae _, .inr ⟨by simp,by simp[ag]⟩⟩
 |load t x=>simp only[ho]at C;refine rdv C (by rw[execOp,ho]) λp hp=> ?_;obtain⟨q,J,I⟩:=Zam hp;exact ZjG hI I (ZaD R J)
 |nilCheck x=>simp only[ho]at C;obtain⟨U,_,_⟩:=ZdH C;unfold ZdL at U;obtain⟨q,J,I⟩:=Zam U;have hq:=ZaD R J;(cases q<;>simp only[]at I<;>try (cases I;done));cases I;simp only[VRel]at hq;obtain⟨l,hl,hq⟩:=hq;exact same (u:=a.eval x) (by simp[execOp,ho,hq]) (by rw[hq];simp only[VRel];exact⟨l,hl,rfl⟩);cases I;have ad:=hq;simp only[VRel,IRel]at ad;obtain⟨b,oo,ad,_⟩:=ad;exact same (u:=a.eval x) (by simp[execOp,ho,ad]) hq;cases I;have ad:=hq;simp only[VRel]at ad;obtain⟨fs,cs,ad,_⟩:=ad;exact same (u:=a.eval x) (by simp[execOp,ho,ad]) hq
 |binOp op t x y yt=>simp only[ho]at C;refine rdv (s:=(do eqGuard op t x y (a.eval x) (a.eval y);binOp op t (a.eval x) (a.eval y))) C (by rw[execOp,ho]) λp hp=> ?_;unfold Zsh at hp;split at hp;rename_i r hr;cases hp;obtain⟨q,r,J,I,h3⟩:=ZrE hr;exact Zru h3 (ZaD R J) (ZaD R I);cases U:ev tm x with|none=>rw[U,ZAa]at hp;cases hp|some q=>rw[U]at hp;exact ZvK hp (ZaD R U) λe=>by rw[e];rfl
 |makeInterface t x=>simp only[ho]at C;refine rdv C (by rw[execOp,ho]) λp hp=> ?_;obtain⟨q,J,I⟩:=Zam (show((ev tm x).bind λv=>Zh4 P t (some v))=some p from hp);exact ZqP I (ZaD R J)
 |typeAssert x xt u ok=>simp only[ho]at C;refine rdv C (by rw[execOp,ho]) λp hp=> ?_;obtain⟨q,J,I⟩:=Zam (show((ev tm x).bind λv=>Zhc P (some v) u ok)=some p from hp);exact Znr I (ZaD R J)
 |unOp op t x=>simp only[ho]at C;refine rdv C (by rw[execOp,ho]) λp hp=> ?_;obtain⟨q,J,I⟩:=Zam hp;exact ZwM I (ZaD R J)
 |convert s d x=>simp only[ho]at C;obtain⟨U,rfl,rfl⟩:=ZdH C;obtain⟨q,J,I⟩:=Zam U;obtain⟨u,w',S',h3,h4,h5,h6⟩:=ZpL (P:=P) hI I (ZaD R J);exact Zdi (by simp only[execOp,ho];exact ZDD h3) (hK _ w' φ S' h4 h5 h6 (λ_ _=>rfl))
 |makeFunc fn first ah=>simp only[ho]at C;obtain⟨U,_,_⟩:=ZdH C;unfold ZvU at U;split at U;rename_i f;obtain⟨as,J,I⟩:=Zam U;(cases h3:Za3 (ev tm) ah.toList with|none=>simp[h3]at I|some cs=>simp only[h3,Xau,Xaj]at I;subst I;refine same (u:= .func (.func f) (first.map a.eval) (ah.map a.eval)) (by simp[execOp,ho,Instr.makeFunc]) ?_;simp only[VRel];exact⟨_,_,rfl,by simpa using Zcw R J,by simpa using Zcw R h3⟩);cases U
 |makeMap t r=>simp only[ho,Zeb]at C;cases r with|some _=>simp at C|none=>simp only[]at C;cases hs:Zjs P t with|none=>simp[hs]at C|some e=>simp only[hs,Xau,Xaj,Prod.mk.injEq]at C;obtain⟨rfl,rfl,rfl⟩:=C;obtain⟨m',ae,af,ab⟩:=aj 0 _ rfl;have aa:=af.sim;simp only[Nat.add_zero]at ae ab;cases m' with|map es'=>simp only[simM]at aa;subst aa;obtain⟨φ',S',I,h3,h4,h5⟩:=hI.addMap (Zlb w (.map #[] 0)) ab ae (ZhX w _);refine Zdi (u:= .map (some w.heap.size)) (w':=w.alloc (.map #[] 0)) (by simp[execOp,ho,Instr.makeMap]) (hK _ _ φ' S' I h3 (by simp only[VRel];exact⟨_,h4,rfl⟩) ?_);intro i hi;exact h5 i (by rintro rfl;exact hi ⟨Xae _,by simp⟩)|row _ _ _=>simp[simM]at aa|dead=>simp[simM]at aa
 |makeSlice t l c=>
  simp only[ho,Zc5]at C;obtain⟨lv,cv,J,I,h3⟩:=ZrE C;cases hb:ZgO P t lv cv with
  |none=>simp[hb]at h3
  |some g=>
   simp only[hb,Xau,Xaj,Prod.mk.injEq]at h3;obtain⟨rfl,rfl,rfl⟩:=h3;unfold ZgO at hb;split at hb;rename_i k1 l' k2 c';have hl:=ZaD R J;have hc:=ZaD R I;simp only[VRel]at hl hc;cases he:Zmm P t with
    |none=>simp[he]at hb
    |some e=>
     have hu:=Zgx he;simp only[he,Xad]at hb;obtain⟨z,h4,hb⟩:=Zam hb;obtain⟨by_,h5,hb⟩:=Zam hb;obtain⟨zero,h6,hb⟩:=Zam hb;obtain⟨⟨aw,ax,ay,a7,a8,aq⟩,hb⟩:=Zau hb;cases hb;obtain⟨i,zv,hi,ak,hv,az⟩:=Zdn (w:=w) (φ:=φ) (S:=S) h6;have ag:i.size=z:=(by unfold Zbi at h4;rw[hi]at h4;simpa using h4);have a1:i.bytes=by_:=(by unfold ZlH at h5;rw[hi]at h5;simpa using h5);have a6:zv.cells.size=z:=(by have:=VL.length hv;simpa[aq]using this);have ai:=run_make (P:=P) w t e i zv hu hi ak k1 k2 l' c' aw ax (by rw[a1];exact ay) (by omega);rw[ag]at ai;have ar: ∀k,VL φ w S (List.replicate k zero).flatten (List.replicate k zv.cells.toList).flatten:=by intro k;induction k with|zero=>simp[VL]|succ k ih=>simp only[List.replicate_succ,List.flatten_cons];exact VL.append hv ih
     have al:(madeCells zv.cells (c'.toNat*z)).toList=(List.replicate c'.toNat zv.cells.toList).flatten:=(by rw[<-a6];exact ZfJ _ _);have hle:l'.toNat<=c'.toNat:=(by omega);refine newRow rfl (u:= .slice (some ⟨w.heap.size,0,none⟩) l'.toNat c'.toNat) (cur:=madeCells zv.cells (c'.toNat*z)) (e:=e) (vs:=(List.replicate c'.toNat zv.cells.toList).flatten) ?_ ?_ (ar _) ?_ ?_ ?_ ?_;simp only[execOp,ho,hl,hc];exact ZDD ai;intro x U;rw[(List.mem_replicate.1 U).2];exact aq;intro x U;simp only[List.mem_flatten,List.mem_replicate]at U;obtain⟨y,⟨_,rfl⟩,U⟩:=U;exact az x U;intro j x hj;have:(madeCells zv.cells (c'.toNat*z)).toList[j]? =some x:=(by rw[al];exact hj);simpa using this;simp only[XaE,size_madeCells];exact Xae _;intro φ' S' ab;simp only[VRel];exact⟨_,_,c'.toNat,ab,rfl,hle,Xae _, .inr ⟨by simp,by simp[size_madeCells]⟩⟩
   cases hb
 |slice t x lo hi mx=>simp only[ho]at C;refine rdv C (by rw[execOp,ho]) λp hp=> ?_;unfold Zc1 at hp;obtain⟨q,J,hp⟩:=Zam hp;obtain⟨l,I,hp⟩:=Zam hp;obtain⟨k,h3,hp⟩:=Zam hp;obtain⟨m,h4,hp⟩:=Zam hp;exact ZnB hI hp (ZaD R J) (Zjf R I) (Zjf R h3) (Zjf R h4)
 |fieldAddr s x f=>simp only[ho]at C;refine rdv C (by rw[execOp,ho]) λp hp=> ?_;obtain⟨q,J,I⟩:=Zam hp;exact Zi4 I (ZaD R J)
 |field s x f=>simp only[ho]at C;refine rdv C (by rw[execOp,ho]) λp hp=> ?_;obtain⟨q,J,I⟩:=Zam hp;exact ZoR I (ZaD R J)
 |indexAddr t x i=>simp only[ho]at C;refine rdv C (by rw[execOp,ho]) λp hp=> ?_;obtain⟨q,r,J,I,h3⟩:=ZrE hp;exact Zi3 hI h3 (ZaD R J) (ZaD R I)
 |index t x i=>simp only[ho]at C;refine rdv C (by rw[execOp,ho]) λp hp=> ?_;obtain⟨q,r,J,I,h3⟩:=ZrE hp;exact ZoD h3 (ZaD R J) (ZaD R I)
 |lookup t x k ok=>simp only[ho]at C;refine rdv C (by rw[execOp,ho]) λp hp=> ?_;obtain⟨q,r,J,I,h3⟩:=ZrE hp;exact Zmn hI h3 (ZaD R J) (ZaD R I)
 |extract x i=>simp only[ho]at C;refine rdv C (by rw[execOp,ho]) λp hp=> ?_;have hp':=hp;unfold Zfa at hp';obtain⟨q,J,_⟩:=Zam hp';rw[J]at hp;exact Zn8 hp (ZaD R J)
 |call c=>simp only[ho,ZjS]at C;cases hc:c.callee with|builtin b=>simp only[hc]at C;obtain⟨U,_,_⟩:=ZdH C;obtain⟨vs,J,I⟩:=Zam U;obtain⟨u,h3,h4⟩:=Zmk (P:=P) (ty:=o.type) (cs:=c.args.map λ| .const _=>true|_=>false) hI I (Zcw R J);refine same (u:=u) ?_ h4;simp only[execOp,ho,resolve,hc,Sem.run_bind,Sem.run_pure,Result.andThen_ok,invoke];rw[show c.args.map a.eval=(c.args.toList.map a.eval).toArray from by rw[<-Array.toList_map,Array.toArray_toList]];exact h3|value x=>(cases x with|func f=>simp only[hc,Zic]at C;obtain⟨ba,C⟩:=Zlf C;obtain⟨vs,J,I⟩:=Zam C;have h3:=ZlI hG.rn hG.prim hI I (Zcw R J) aj au;refine Zhw (f:=f) (args:=(c.args.toList.map a.eval).toArray) ?_ (h3.mono ?_);simp only[execOp,ho,resolve,hc,Act.eval,Deferred.ofValue,Sem.run_bind,Sem.run_pure,Result.andThen_ok,invoke];rw[ZfT (Zth hG I),show c.args.map a.eval=(c.args.toList.map a.eval).toArray from by rw[<-Array.toList_map,Array.toArray_toList]];simp only[Array.empty_append,Array.append_empty];rintro e w' ⟨u,φ',S',rfl,h4,h5,h6,h7⟩;exact⟨u,rfl,hK u w' φ' S' h4 h5 h6 h7⟩|_=>simp[hc]at C)|invoke _ _=>simp[hc]at C
 |_=>simp[ho]at C
end
variable [Laid]
section
variable {P:Program} {h:Hints} {E:Ev} {w:World} {φ:Phi} {S:Nat->Prop} {B:Nat} {H:List Mem}
def ZdA b: ∀ (vs:List Value) (o:Nat) (w:World),(w.setCells b o vs).heap.size=w.heap.size
 | [],_,_=>rfl
 |v::r,o,w=>by rw[World.setCells,ZdA b r];simp
def ZcC b: ∀ (vs:List Value) (o:Nat) (w:World),(w.setCells b o vs).os=w.os/\(w.setCells b o vs).tape=w.tape/\(w.setCells b o vs).output=w.output
 | [],_,_=>⟨rfl,rfl,rfl⟩
 |v::r,o,w=>by rw[World.setCells];exact ZcC b r (o+1) _
def Zb7 b: ∀ (vs:List Value) (o:Nat) (w:World) (k:Nat),k≠b->(w.setCells b o vs).heap[k]? =w.heap[k]?
 | [],_,_,_,_=>rfl
 |v::r,o,w,k,j=>by rw[World.setCells,Zb7 b r (o+1) _ k j];exact Below.heap_setCell w ⟨b,o,none⟩ v k j
def Zey b: ∀ (vs:List Value) (o:Nat) (w:World) (cur:Array Value) (e:TypeId) (fz:Nat×Nat),w.heap[b]? =some (.cells cur e fz)-> ∃j,(w.setCells b o vs).heap[b]? =some (.cells j e fz)/\j.size=cur.size
 | [],_,_,cur,_,_,h=>⟨cur,h,rfl⟩
 |v::r,o,w,cur,e,fz,h=>by rw[World.setCells];have C:(w.setCell ⟨b,o,none⟩ v).heap[b]? =some (.cells (cur.setIfInBounds o v) e fz):=(by simp[World.setCell,Array.getElem?_modify,h]);(let⟨j,I,J⟩:=Zey b r (o+1) _ _ e fz C);grind
def VC.keep {φ' b j vs} (hp: ∀id l,φ id=some l->φ' id=some l) (C: ∀k,S k->S k/\(w.setCells b j vs).heap[k]? =w.heap[k]?):
 ∀ (l:List PV) (o:Nat),(o+l.length<=j\/j+vs.length<=o)->VC φ w S l b o->VC φ' (w.setCells b j vs) S l b o
 | [],_,_,_=>trivial
 |p::ps,o,hd,h=>by(let⟨⟨I,v,J,R⟩,U⟩:=h);simp only[Xao]at hd;refine⟨⟨I,v, ?_,VRel.mono hp C p v R⟩,VC.keep hp C ps (o+1) oM U⟩;rw[World.cell?_setCells_out b vs j w ⟨b,o,none⟩ (λ_ _=>by show o<j\/j+vs.length<=o;omega)];exact J
theorem VC.fresh {φ' b o cs vs} (hp: ∀id l,φ id=some l->φ' id=some l) (J: ∀k,S k->S k/\(w.setCells b o vs).heap[k]? =w.heap[k]?) (C:VL φ w S cs vs) (R: ∀c∈cs,ZcZ c=true)
 (U: ∀j,j<vs.length->(w.cell? ⟨b,o+j,none⟩).isSome=true):VC φ' (w.setCells b o vs) S cs b o:=by
 refine VC.of_vals (VL.mono hp J _ _ C) R λj v hj=> ?_;let⟨I,C⟩:=Xaf.1 hj
 rw[World.cell?_setCells_in b vs o w U j I,C]
def VC.spliced {φ' b o k xs cs vs} (hp: ∀id l,φ id=some l->φ' id=some l) (C: ∀j,S j->S j/\(w.setCells b (o+k) vs).heap[j]? =w.heap[j]?) (I:VC φ w S xs b o) (J:VL φ w S cs vs) (R: ∀c∈cs,ZcZ c=true)
 (U:k+cs.length<=xs.length) (hc: ∀j,j<vs.length->(w.cell? ⟨b,o+k+j,none⟩).isSome=true):VC φ' (w.setCells b (o+k) vs) S (splice xs k cs) b o:=by have hl:=VL.length J;refine VC.append (VC.keep hp C _ _ (.inl (by rw[Xaz];omega)) (VC.take k I)) (VC.append ?_ ?_);grind [XaU,VC.fresh];rw[Xaz,XaU oM];refine VC.keep hp C _ _ (.inr oM) ?_;simp_all [XbL,VC.drop]
def Inv.patch {w' id l es' z φ' H'} (hI:Inv φ H w S B) (hid:φ' id=some l) (C: ∀i,i≠id->φ' i=φ i) (ai:φ id=none\/φ id=some l)
 (hH:H'[id]? =some (.row es' z true)) (U: ∀i l',i≠id->φ i=some l'->H'[i]? =H[i]?\/H'[i]? =some .dead) (hlen:H.length<=H'.length)
 (R:w'.os=w.os/\w'.tape=w.tape/\w'.output=w.output) (ad:w'.heap.size=w.heap.size) (J: ∀b,b≠l.b->w'.heap[b]? =w.heap[b]?) (hS: ¬S l.b) (hB:B<=l.b) (al:l.b<w.heap.size)
 (aa: ∀j lj m,j≠id->φ j=some lj->H'[j]? =some m->m.alive=true->lj.b≠l.b) (aj:RowAt φ' w' S l es' z true):Inv φ' H' w' S B/\Evo H.length B φ S w φ' S w':=by
 have hp: ∀i x,φ i=some x->φ' i=some x:=by grind
 have hs: ∀b,S b->S b/\w'.heap[b]? =w.heap[b]? :=λb hb=>⟨hb,J b (by rintro rfl;exact hS hb)⟩
 have ak:=(Xaf.1 hH).1;refine⟨⟨?_, ?_, ?_, ?_,λb hb=>by rw[ad];exact hI.stable b hb,by rw[ad];exact hI.base,Laid.mono _ _ _ _ hs hI.laid⟩,λi x _ h=>hp i x h,hs,λ_ _ I=>I,R.1,R.2.1,R.2.2,by rw[ad];exact Xae _,λk hk=>J k oM⟩;intro i x I;by_cases hi:i=id;grind;rw[C i hi]at I;have:=hI.live i x I;omega;intro i x es z' m I hm;by_cases hi:i=id;grind;rw[C i hi]at I;rcases U i x hi I with he|he;rw[he]at hm;have ae:=aa i x _ hi I (by rw[he];exact hm) rfl;exact(hI.row i x es z' m I hm).mono hp hs (J _ ae) (λy=>y);rw[he]at hm;cases hm;intro i x es I hm;by_cases hi:i=id;subst hi;rw[hH]at hm;cases hm;rw[C i hi]at I;rcases U i x hi I with he|he;rw[he]at hm;have ae:=aa i x _ hi I (by rw[he];exact hm) rfl;let⟨h3,ah,clock,h4,h5⟩:=hI.map i x es I hm
 exact⟨h3,ah,clock,by rw[J _ ae];exact h4,VMc.mono hp hs h5⟩;rw[he]at hm;cases hm;intro i j x y m m' af I hy hm ab ha ag;by_cases hi:i=id;subst hi;rw[hid]at I;cases I;rw[C j (λe=>af e.symm)]at hy;exact λe=>aa j y m' (λe=>af e.symm) hy ab ag e.symm;by_cases hj:j=id;subst hj;rw[hid]at hy;cases hy;rw[C i hi]at I;exact aa i x m hi I hm ha;rw[C i hi]at I;rw[C j hj]at hy;have e1:H[i]? =some m:=by rcases U i x hi I with he|he;rw[<-he];exact hm;rw[he]at hm;cases hm;simp[Mem.alive]at ha
 have e2:H[j]? =some m':=by rcases U j y hj hy with he|he;rw[<-he];exact ab;rw[he]at ab;cases ab;simp[Mem.alive]at ag
 exact hI.apart i j x y m m' af I hy e1 e2 ha ag
def Inv.reheap {H'} (hI:Inv φ H w S B) (I: ∀i l',φ i=some l'->H'[i]? =H[i]?\/H'[i]? =some .dead) (hlen:H.length<=H'.length):Inv φ H' w S B where
 live:=λi x C=>by have:=hI.live i x C;exact⟨this.1,this.2.1,oM⟩
 row:=by intro i x es z m C hm;rcases I i x C with he|he;rw[he]at hm;exact hI.row i x es z m C hm;rw[he]at hm;cases hm
 map:=by intro i x es C hm;rcases I i x C with he|he;rw[he]at hm;exact hI.map i x es C hm;rw[he]at hm;cases hm
 apart:=by intro i j x y m U J C hy hm aa ha R;have e1:H[i]? =some m:=(by grind [Mem.alive]);have e2:H[j]? =some U:=(by grind [Mem.alive]);exact hI.apart i j x y m U J C hy e1 e2 ha R
 stable:=hI.stable
 base:=hI.base
 laid:=hI.laid
theorem ZeI {l es z} (j:RowAt φ w S l es z true) k (J:k<l.top):(w.cell? ⟨l.b,l.o+k,none⟩).isSome=true/\w.frozen? ⟨l.b,l.o+k,none⟩=false:=by
 let⟨cur,e,fz,C,R,I⟩:=j.blk
 refine⟨?_,I rfl _ oM⟩;simp[World.cell?,C];omega
def RowAt.set {φ' l es es' z k cs vs} (C:RowAt φ w S l es z true) (hp: ∀id l,φ id=some l->φ' id=some l) (he:es'.flatten=splice es.flatten k cs) (hw: ∀x∈es',x.length=z) (hl:es'.length=es.length)
 (hv:VL φ w S cs vs) (R: ∀c∈cs,ZcZ c=true) (hk:k+cs.length<=es.flatten.length):RowAt φ' (w.setCells l.b (l.o+k) vs) S l es' z true where
 zs:=C.zs
 top:=by rw[hl];exact C.top
 wid:=hw
 cells:=by refine VE.of_flat ?_;rw[he];have aa:=Za5 es C.wid;have U:=C.top;refine VC.spliced hp (λj J=>⟨J,Zb7 _ _ _ _ _ (by rintro rfl;exact C.own rfl J)⟩) (VE.flat C.cells) hv R hk λj J=> ?_;grind [VL.length,XbL,ZeI]
 blk:=by(let⟨cur,e,fz,R,h2,h3⟩:=C.blk);(let⟨I,h4,h5⟩:=Zey l.b vs (l.o+k) w cur e fz R);exact⟨I,e,fz,h4,oM,λhm j J=>by rw[World.frozen?_setCells];exact h3 hm j oM⟩
 own:=C.own
 frz:=λh=>by cases h
def Zoy {cs vs} (j:VL φ w S cs vs) (C: ∀c∈cs,ZcZ c=true): ∀v∈vs,v.oneCell'=true:=by induction cs generalizing vs with|nil=>simp[VL]at j;subst j;simp|cons c cs I=>simp[VL]at j;grind [Zub,Xah]
def ZqW {α:Type} A L k (X:List α):splice (A++L) (A.length+k) X=A++splice L k X:=by unfold splice;rw[List.take_length_add_append,XbL,List.drop_length_add_append,Xa7]
def Zso {α:Type} C D r (X:List α) (h:r+X.length<=C.length):splice (C++D) r X=splice C r X++D:=by grind [splice]
def ZgZ {z r X}: ∀ (es:List (List PV)) (i:Nat) (c:List PV),(∀x∈es,x.length=z)->es[i]? =some c->r+X.length<=c.length->(es.set i (splice c r X)).flatten=splice es.flatten (i*z+r) X
 | [],i,c,_,h,_=>by simp at h
 |e::es,0,c,j,h,C=>by simp_all [List.set_cons_zero,List.flatten_cons,Nat.zero_mul,Xag,Zso]
 |e::es,i+1,c,j,h,C=>by have he:=j e Xah;simp only[List.set_cons_succ,List.flatten_cons];rw[ZgZ es i c (λx I=>j x (Xai _ I)) (by simpa using h) C];rw[show(i+1)*z+r=e.length+(i*z+r)from by rw[Xbs,he];omega,ZqW]
def ZjL {t p v H' ad x} (hI:Inv φ H w S B) (C:Zdo P H t p v=some H') (hp:VRel φ w S p ad) (hx:VRel φ w S v x) (hn: ∀vs,v≠ .tup vs):
 ∃w',(Instr.storeAt t ad x).run P w= .ok () w'/\Inv φ H' w' S B/\Evo H.length B φ S w φ S w':=by
 unfold Zdo at C;split at C;rename_i id i r;split at C;rename_i es z hm;let⟨c,hc,C⟩:=Zam C
 let⟨n,aa,C⟩:=Zam C
 let⟨⟨hlen,hle⟩,C⟩:=Zau C
 cases C;simp[VRel]at hp;obtain⟨l,hl,rfl⟩:=hp;have I:=hI.row id l es z true hl hm;let⟨hv,ho⟩:=Zhq hx hn
 have ab:=VL.length hv;have hi:=(Xaf.1 hc).1;have ae:=I.wid c (XaC hc);have ak:=Za5 es I.wid;have al:i*z+z<=es.length*z:=by rw[<-Nat.succ_mul];exact Xbk _ hi
 have aj:=I.top;have R:r+(cellsOf v).length<=c.length:=oM;have af:=ZgZ es i c I.wid hc R;refine⟨w.setCells l.b (l.o+(i*z+r)) x.cells.toList, ?_, ?_⟩
 have ag:=run_storeCells_cells (P:=P) l.b (l.o+(i*z+r)) x.cells.toList 0 w
     (λj J=>by rw[show l.o+(i*z+r)+0+j=l.o+(i*z+r+j)from by omega];exact(ZeI I _ oM).1)
     (λj J=>by rw[show l.o+(i*z+r)+0+j=l.o+(i*z+r+j)from by omega];exact(ZeI I _ oM).2) (Zoy hv ho)
 have ah:x.cells.size=n:=by simpa[hlen]using ab
 simp[Instr.storeAt,Instr.sureAddr,storeVar,ZaR aa,ah];rw[I.zs,XbL];exact ag
 refine hI.patch (es':=es.set i (splice c r (cellsOf v))) hl (λ_ _=>rfl) (.inr hl) (by simp[(hI.live id l hl).2.2]) ?_ sM (ZcC _ _ _ _) (ZdA _ _ _ _) (λb hb=>Zb7 _ _ _ _ _ hb)
     (I.own rfl) (hI.live id l hl).1 (hI.live id l hl).2.1 ?_ (I.set (λ_ _ h=>h) af ?_ sM hv ho ?_)
 intro j l' J _;exact .inl (by rw[XaL (λe=>J e.symm)]);intro j lj m J ai U ha;rw[XaL (λe=>J e.symm)]at U;exact hI.apart j id lj l m _ J ai hl U hm ha rfl;intro y hy;rcases Xbx hy with hy|rfl;exact I.wid y hy;rw[ZhL _ _ _ oM];exact ae;omega;cases C;cases C
end
end
end Go.Am
