/-
  A deterministic evaluator for the loaded program's code on plain values (own memory by numbers, foreign memory by content). Definitions alone; its soundness is proved in the texts behind.
-/
import Derived.Calls
set_option linter.unusedSimpArgs false
set_option linter.unusedVariables false
namespace Go.Am

inductive PV where
  | bool (b : Bool)
  | int (k : IntKind) (n : Int)
  | str (s : ByteArray)
  | nilp | nils | nilf | nilm
  | ptr (id i r : Nat)
  | ref (id i n m : Nat)
  | map (id : Nat)
  | lst (es : List (List PV))
  | box (cs : List PV) (r : Nat)
  | func (f : FuncId) (first caps : List PV)
  | agg (cs : List PV)
  | tup (vs : List PV)
  deriving Inhabited

inductive Mem where
  | row (es : List (List PV)) (z : Nat) (m : Bool)
  | map (es : List (PV × PV))
  | dead
  deriving Inhabited

structure St where
  tm : List (Nat × PV)
  hp : List Mem

inductive Ex where
  | normal
  | exit (id : Nat)
  | ret
  deriving DecidableEq

structure Hints where
  ok : FuncId → Bool
  opn : FuncId → Bool
  mem : FuncId → Bool
  imp : FuncId → Bool
  keep : FuncId → Nat → Option (List Nat × Bool)
  keepB : FuncId → Nat → Option (List Nat × Bool)
  light : FuncId → Nat → List Nat
  frz : TypeId → Bool
  prim : FuncId → Option (List PV → Option PV)

structure Cx where
  fid : Nat
  base : Nat
  N : Nat

noncomputable def get (tm : List (Nat × PV)) (i : Nat) : Option PV :=
  List.rec none (fun p _ ih => bif Nat.beq i p.1 then some p.2 else ih) tm

noncomputable def omap {α β : Type} (f : α → Option β) (l : List α) : Option (List β) :=
  List.rec (some []) (fun a _ ih => (f a).bind fun b => ih.bind fun s => some (b :: s)) l

noncomputable def ofScal : Value → Option PV
  | .bool b => some (.bool b)
  | .int k n => some (.int k n)
  | .string s => some (.str s)
  | .pointer none => some .nilp
  | .slice none 0 0 => some .nils
  | .nilFunc => some .nilf
  | .map none => some .nilm
  | _ => none

noncomputable def ofVal : Value → Option PV
  | .agg cs => (omap ofScal cs.toList).map .agg
  | v => ofScal v

noncomputable def toScal : PV → Option Value
  | .bool b => some (.bool b)
  | .int k n => some (.int k n)
  | .str s => some (.string s)
  | .nilp => some (.pointer none)
  | .nils => some (.slice none 0 0)
  | .nilf => some .nilFunc
  | .nilm => some (.map none)
  | _ => none

noncomputable def cellsOf : PV → List PV
  | .agg cs => cs
  | v => [v]

/-- Whatever is no tuple. -/
noncomputable def noTup : PV → Option PV
  | .tup _ => none
  | v => some v

noncomputable def ev (tm : List (Nat × PV)) : Operand → Option PV
  | .tmp t => get tm t
  | .const v => ofVal v
  | .func f => some (.func f [] [])
  | .global _ => none

noncomputable def tsize (P : Program) (t : TypeId) : Option Nat := (P.info? t).map (·.size)
noncomputable def tbytes (P : Program) (t : TypeId) : Option Nat := (P.info? t).map (·.bytes)
noncomputable def tagg (P : Program) (t : TypeId) : Option Bool :=
  match P.underlying t with
  | some (.struct _) | some (.array _ _) => some true
  | some _ => some false
  | none => none
noncomputable def telem (P : Program) (t : TypeId) : Option TypeId :=
  match P.underlying t with
  | some (.slice e) => some e
  | _ => none
noncomputable def zcells (P : Program) (t : TypeId) : Option (List PV) :=
  match (P.info? t) with
  | some i => match i.zero with
    | some v => omap ofScal v.cells.toList
    | none => none
  | none => none

noncomputable def zeroPV (P : Program) (t : TypeId) : Option PV :=
  match (P.info? t) with
  | some i => match i.zero with
    | some v => ofVal v
    | none => none
  | none => none

/-- The part of a row of cells that a variable of a type takes. -/
noncomputable def partOf (P : Program) (t : TypeId) (cs : List PV) (off : Nat) : Option PV :=
  match tagg P t with
  | some true => (tsize P t).bind fun n => if off + n ≤ cs.length then some (.agg ((cs.drop off).take n)) else none
  | some false => cs[off]?
  | none => none

noncomputable def splice {α : Type} (l : List α) (off : Nat) (cs : List α) : List α := l.take off ++ (cs ++ l.drop (off + cs.length))

/-- A run that asks nothing of memory. -/
noncomputable def pureRun {α : Type} (P : Program) : Sem α → Option α
  | .pure a => some a
  | .program k => pureRun P (k P)
  | _ => none

noncomputable def intBin (op : BinOp) (k : IntKind) (a : Int) (k' : IntKind) (b : Int) : Option PV :=
  match op with
  | .shl => if b < 0 then none else some (.int k (k.wrap (a * 2 ^ (min b.toNat k.bits))))
  | .shr => if b < 0 then none else some (.int k (a.fdiv (2 ^ (min b.toNat k.bits))))
  | .add => if k = k' then some (.int k (k.wrap (a + b))) else none
  | .sub => if k = k' then some (.int k (k.wrap (a - b))) else none
  | .mul => if k = k' then some (.int k (k.wrap (a * b))) else none
  | .quo => if k = k' then if b = 0 then none else some (.int k (k.wrap (a.tdiv b))) else none
  | .rem => if k = k' then if b = 0 then none else some (.int k (a.tmod b)) else none
  | .and => if k = k' then some (.int k (k.wrap (BitVec.ofInt k.bits a &&& BitVec.ofInt k.bits b).toNat)) else none
  | .or => if k = k' then some (.int k (k.wrap (BitVec.ofInt k.bits a ||| BitVec.ofInt k.bits b).toNat)) else none
  | .xor => if k = k' then some (.int k (k.wrap (BitVec.ofInt k.bits a ^^^ BitVec.ofInt k.bits b).toNat)) else none
  | .andNot => if k = k' then some (.int k (k.wrap (BitVec.ofInt k.bits a &&& ~~~ (BitVec.ofInt k.bits b)).toNat)) else none
  | .eql => if k = k' then some (.bool (a == b)) else none
  | .neq => if k = k' then some (.bool (a != b)) else none
  | .lss => if k = k' then some (.bool (decide (a < b))) else none
  | .leq => if k = k' then some (.bool (decide (a ≤ b))) else none
  | .gtr => if k = k' then some (.bool (decide (a > b))) else none
  | .geq => if k = k' then some (.bool (decide (a ≥ b))) else none

noncomputable def strBin (op : BinOp) (a b : ByteArray) : Option PV :=
  match op with
  | .add => if a.size + b.size ≤ 9223372036854775807 then some (.str (a ++ b)) else none
  | .eql => some (.bool (a.data.toList == b.data.toList))
  | .neq => some (.bool (!(a.data.toList == b.data.toList)))
  | .lss => some (.bool (Op.bytesLess a.data.toList b.data.toList))
  | .leq => some (.bool (Op.bytesLess a.data.toList b.data.toList || a.data.toList == b.data.toList))
  | .gtr => some (.bool (!(Op.bytesLess a.data.toList b.data.toList || a.data.toList == b.data.toList)))
  | .geq => some (.bool (!Op.bytesLess a.data.toList b.data.toList))
  | _ => none

noncomputable def isBoolT (P : Program) (t : TypeId) : Bool := match P.underlying t with | some .bool => true | _ => false

noncomputable def eqOp (op : BinOp) (r : Bool) : Option PV :=
  match op with
  | .eql => some (.bool r)
  | .neq => some (.bool (!r))
  | _ => none

/-- '==' of two structs or arrays whose cells are plain. -/
noncomputable def aggEq (P : Program) (t : TypeId) (xs ys : List PV) : Option Bool :=
  (omap toScal xs).bind fun a => (omap toScal ys).bind fun b =>
    if P.eqGuardType P.depth t then none else pureRun P (Op.equal t (.agg a.toArray) (.agg b.toArray))

noncomputable def isPtrT (P : Program) (t : TypeId) : Bool := match P.underlying t with | some (.pointer _) => true | _ => false
noncomputable def isSliceT (P : Program) (t : TypeId) : Bool := match P.underlying t with | some (.slice _) => true | _ => false

noncomputable def binPV (P : Program) (op : BinOp) (t : TypeId) (x y : PV) : Option PV :=
  match x, y with
  | .int k a, .int k' b => intBin op k a k' b
  | .str a, .str b => strBin op a b
  | .bool a, .bool b => if isBoolT P t then eqOp op (a == b) else none
  | .agg xs, .agg ys => (aggEq P t xs ys).bind (eqOp op)
  | .nils, .nils => if isSliceT P t then eqOp op true else none
  | .ref _ _ _ _, .nils => if isSliceT P t then eqOp op false else none
  | .lst _, .nils => if isSliceT P t then eqOp op false else none
  | .nilp, .nilp => if isPtrT P t then eqOp op true else none
  | .ptr _ _ _, .nilp => if isPtrT P t then eqOp op false else none
  | .box _ _, .nilp => if isPtrT P t then eqOp op false else none
  | _, _ => none

noncomputable def unPV (op : UnOp) (x : PV) : Option PV :=
  match op, x with
  | .neg, .int k n => some (.int k (k.wrap (0 - n)))
  | .not, .bool b => some (.bool (!b))
  | .xor, .int k n => some (.int k (k.wrap (BitVec.ofInt k.bits (if k.signed then -1 else k.max) ^^^ BitVec.ofInt k.bits n).toNat))
  | _, _ => none

noncomputable def byteCells (s : ByteArray) : List (List PV) := s.data.toList.map fun b => [.int .u8 b.toNat]

/-- The bytes of cells, if that is what they are. -/
noncomputable def bytesOf : List (List PV) → Option (List UInt8)
  | [] => some []
  | [.int .u8 n] :: r => (bytesOf r).map (UInt8.ofNat n.toNat :: ·)
  | _ => none

/-- The elements of a slice value. -/
noncomputable def elems (H : List Mem) : PV → Option (List (List PV))
  | .nils => some []
  | .lst es => some es
  | .ref id i n _ => match H[id]? with
    | some (.row es _ _) => if i + n ≤ es.length then some ((es.drop i).take n) else none
    | _ => none
  | _ => none

noncomputable def convPV (P : Program) (H : List Mem) (src dst : TypeId) (x : PV) : Option PV :=
  match P.underlying src, P.underlying dst, x with
  | some _, some (.int k), .int _ n => some (.int k (k.wrap n))
  | some _, some .string, .str s => some (.str s)
  | some .string, some (.slice e), .str s => match P.underlying e with
    | some (.int .u8) => some (.lst (byteCells s))
    | _ => none
  | some (.slice e), some .string, x => match P.underlying e with
    | some (.int .u8) => (elems H x).bind fun es => (bytesOf es).map fun l => .str ⟨l.toArray⟩
    | _ => none
  | _, _, _ => none

noncomputable def headOk (es : List (List PV)) (z : Nat) : Bool := match es with | [] => true | c :: _ => c.length == z

/-- Bounds of a slice expression without a third index: low, high within n. -/
noncomputable def bHi (n : Nat) (hi : Option PV) : Option Nat :=
  match hi with
  | none => some n
  | some (.int _ h) => if 0 ≤ h ∧ h ≤ n then some h.toNat else none
  | some _ => none
noncomputable def bLo (h : Nat) (lo : Option PV) : Option Nat :=
  match lo with
  | none => some 0
  | some (.int _ l) => if 0 ≤ l ∧ l ≤ h then some l.toNat else none
  | some _ => none
noncomputable def bounds (n : Nat) (lo hi : Option PV) : Option (Nat × Nat) :=
  (bHi n hi).bind fun h => (bLo h lo).bind fun l => some (l, h)

noncomputable def bHiR (n m : Nat) (hi : Option PV) : Option Nat :=
  match hi with
  | none => some n
  | some (.int _ h) => if 0 ≤ h ∧ h ≤ m then some h.toNat else none
  | some _ => none
noncomputable def bMx (h m : Nat) (mx : Option PV) : Option Nat :=
  match mx with
  | none => some m
  | some (.int _ x) => if h ≤ x ∧ x ≤ m then some x.toNat else none
  | some _ => none
/-- Bounds of a slice with room: low, high, most. -/
noncomputable def bounds3 (n m : Nat) (lo hi mx : Option PV) : Option (Nat × Nat × Nat) :=
  if mx.isSome && hi.isNone then none else
  (bHiR n m hi).bind fun h => (bLo h lo).bind fun l => (bMx h m mx).bind fun x => some (l, h, x)

noncomputable def slicePV (P : Program) (H : List Mem) (t : TypeId) (x : PV) (lo hi mx : Option PV) : Option PV :=
  match P.underlying t, x with
  | some .string, .str s => match mx with
    | none => (bounds s.size lo hi).map fun (l, h) => .str (s.extract l h)
    | some _ => none
  | some (.slice e), .lst es => (tsize P e).bind fun z => (bounds3 es.length es.length lo hi mx).bind fun (l, h, _) =>
      if headOk es z then some (.lst ((es.take h).drop l)) else none
  | some (.slice e), .ref id i n m => (tsize P e).bind fun z => (bounds3 n m lo hi mx).bind fun (l, h, x) =>
      match H[id]? with
      | some (.row _ z' _) => if z' = z then some (.ref id (i + l) (h - l) (x - l)) else none
      | _ => none
  | some (.slice e), .nils => (tsize P e).bind fun _ => (bounds3 0 0 lo hi mx).map fun _ => .nils
  | _, _ => none

noncomputable def fieldAt (P : Program) (s : TypeId) (f : Nat) : Option (Nat × TypeId) :=
  match P.underlying s with
  | some (.struct fs) => (fs[f]?).map fun x => (x.offset, x.type)
  | _ => none

noncomputable def fieldAddrPV (P : Program) (s : TypeId) (x : PV) (f : Nat) : Option PV :=
  (fieldAt P s f).bind fun (off, ft) =>
    match tsize P ft with
    | some 0 => none
    | some _ => match x with
      | .ptr id i r => some (.ptr id i (r + off))
      | .box cs r => some (.box cs (r + off))
      | _ => none
    | none => none

noncomputable def fieldPV (P : Program) (s : TypeId) (x : PV) (f : Nat) : Option PV :=
  (fieldAt P s f).bind fun (off, ft) => match x with
    | .agg cs => partOf P ft cs off
    | _ => none

noncomputable def indexAddrPV (P : Program) (H : List Mem) (t : TypeId) (x ix : PV) : Option PV :=
  match ix with
  | .int _ j =>
    match P.underlying t, x with
    | some (.slice e), .lst es => (tsize P e).bind fun z =>
        if 0 ≤ j ∧ j < es.length then (es[j.toNat]?).bind fun c => if c.length = z then some (.box c 0) else none else none
    | some (.slice e), .ref id i n _ => (tsize P e).bind fun z =>
        if 0 ≤ j ∧ j < n then
          match H[id]? with
          | some (.row _ z' _) => if z' = z then some (.ptr id (i + j.toNat) 0) else none
          | _ => none
        else none
    | some (.array n e), .ptr id i r => (tsize P e).bind fun z => if 0 ≤ j ∧ j < n then some (.ptr id i (r + j.toNat * z)) else none
    | some (.array n e), .box cs r => (tsize P e).bind fun z => if 0 ≤ j ∧ j < n then some (.box cs (r + j.toNat * z)) else none
    | _, _ => none
  | _ => none

noncomputable def indexPV (P : Program) (t : TypeId) (x ix : PV) : Option PV :=
  match ix with
  | .int _ j =>
    match P.underlying t, x with
    | some (.array n e), .agg cs => (tsize P e).bind fun z => if 0 ≤ j ∧ j < n then partOf P e cs (j.toNat * z) else none
    | some .string, .str s => if 0 ≤ j then (s.data.toList[j.toNat]?).map fun b => .int .u8 b.toNat else none
    | _, _ => none
  | _ => none

noncomputable def loadPV (P : Program) (H : List Mem) (t : TypeId) (x : PV) : Option PV :=
  match x with
  | .ptr id i r => match H[id]? with
    | some (.row es _ _) => (es[i]?).bind fun c => partOf P t c r
    | _ => none
  | .box c r => partOf P t c r
  | _ => none

noncomputable def lenPV (P : Program) (H : List Mem) (t : TypeId) (x : PV) : Option PV :=
  match P.underlying t, x with
  | some .string, .str s => some (.int .i64 s.size)
  | some (.array n _), _ => some (.int .i64 n)
  | some (.slice _), .nils => some (.int .i64 0)
  | some (.slice _), .lst es => some (.int .i64 es.length)
  | some (.slice _), .ref _ _ n _ => some (.int .i64 n)
  | some (.map _ _), .nilm => some (.int .i64 0)
  | some (.map _ _), .map id => match H[id]? with
    | some (.map es) => some (.int .i64 es.length)
    | _ => none
  | _, _ => none

noncomputable def min2 (x y : PV) : Option PV := match x, y with
  | .int k a, .int k' b => if k = k' then some (.int k (if b < a then b else a)) else none
  | _, _ => none
noncomputable def max2 (x y : PV) : Option PV := match x, y with
  | .int k a, .int k' b => if k = k' then some (.int k (if b > a then b else a)) else none
  | _, _ => none
noncomputable def ofold (f : PV → PV → Option PV) : List PV → PV → Option PV
  | [], a => some a
  | b :: r, a => (f a b).bind (ofold f r)

noncomputable def keyOf : PV → Option ByteArray
  | .str s => some s
  | _ => none
noncomputable def mapFind (k : ByteArray) : List (PV × PV) → Option (Option PV)
  | [] => some none
  | (.str s, v) :: r => if k.data.toList == s.data.toList then some (some v) else mapFind k r
  | _ => none
noncomputable def mapPut (k : ByteArray) (v : PV) : List (PV × PV) → Option (List (PV × PV))
  | [] => some [(.str k, v)]
  | (.str s, u) :: r => if k.data.toList == s.data.toList then some ((.str k, v) :: r) else (mapPut k v r).map ((.str s, u) :: ·)
  | _ => none

noncomputable def strMap (P : Program) (t : TypeId) : Option TypeId :=
  match P.underlying t with
  | some (.map k e) => match P.underlying k with
    | some .string => some e
    | _ => none
  | _ => none

noncomputable def mapOf (H : List Mem) : PV → Option (List (PV × PV))
  | .nilm => some []
  | .map id => match H[id]? with
      | some (.map es) => some es
      | _ => none
  | _ => none
noncomputable def lookupPV (P : Program) (H : List Mem) (t : TypeId) (x k : PV) (ok : Bool) : Option PV :=
  (strMap P t).bind fun e => (keyOf k).bind fun key => (mapOf H x).bind fun es => (mapFind key es).bind fun r => (zeroPV P e).bind fun zero =>
  some (if ok then .tup [r.getD zero, .bool r.isSome] else r.getD zero)

/-- 'v' filled with parts of the given places. -/
noncomputable def fillAgg (place : Nat → Option (Nat × Nat)) : List PV → List (Nat × PV) → Option (List PV)
  | cs, [] => some cs
  | cs, (i, v) :: r => (place i).bind fun (off, n) =>
      if (cellsOf v).length = n ∧ off + n ≤ cs.length then fillAgg place (splice cs off (cellsOf v)) r else none

noncomputable def fillRow (z : Nat) : List (List PV) → List (Nat × PV) → Option (List (List PV))
  | es, [] => some es
  | es, (i, v) :: r => if (cellsOf v).length = z ∧ i < es.length then fillRow z (es.set i (cellsOf v)) r else none

noncomputable def partsOf (ρ : Operand → Option PV) (parts : Array (Nat × Operand)) : Option (List (Nat × PV)) :=
  omap (fun x => ((ρ x.2).bind noTup).map fun v => (x.1, v)) parts.toList

noncomputable def buildPV (P : Program) (t : TypeId) (parts : List (Nat × PV)) : Option PV :=
  (zcells P t).bind fun zero =>
  match P.underlying t with
  | some (.struct fs) => (fillAgg (fun i => (fs[i]?).bind fun f => (tsize P f.type).map fun n => (f.offset, n)) zero parts).bind fun cs =>
      (omap (fun f => tsize P f.type) fs.toList).map fun _ => .agg cs
  | some (.array _ e) => (tsize P e).bind fun n => (fillAgg (fun i => some (i * n, n)) zero parts).map .agg
  | _ => none

noncomputable def buildSliceM (P : Program) (t : TypeId) (len : Nat) (parts : List (Nat × PV)) : Option Mem :=
  (telem P t).bind fun e => (tsize P e).bind fun z => (zcells P e).bind fun zero =>
    if (0 < len ∨ parts = []) ∧ 0 < z ∧ zero.length = z ∧ len * z ≤ 16777216 then (fillRow z (List.replicate len zero) parts).map fun es => .row es z true else none

noncomputable def makeSliceM (P : Program) (t : TypeId) (len cap : PV) : Option (Mem × Nat × Nat) :=
  match len, cap with
  | .int _ l, .int _ c => (telem P t).bind fun e => (tsize P e).bind fun z => (tbytes P e).bind fun by_ => (zcells P e).bind fun zero =>
      if 0 ≤ l ∧ l ≤ c ∧ by_ * c ≤ 281474976710656 ∧ c < 9223372036854775808 ∧ 0 < z ∧ zero.length = z then
        some (.row (List.replicate c.toNat zero) z true, l.toNat, c.toNat) else none
  | _, _ => none

noncomputable def expFuel : Nat := 40

/-- A value with the content of the memory that it leads to. -/
noncomputable def exp : Nat → List Mem → PV → Option PV
  | 0, _, _ => none
  | n + 1, H, v => match v with
    | .ref id i l _ => match H[id]? with
      | some (.row es _ _) => if i + l ≤ es.length then (omap (omap (exp n H)) ((es.drop i).take l)).map .lst else none
      | _ => none
    | .ptr id i r => match H[id]? with
      | some (.row es _ _) => (es[i]?).bind fun c => (omap (exp n H) c).map fun q => .box q r
      | _ => none
    | .map _ => none
    | .func f a c => (omap (exp n H) a).bind fun a' => (omap (exp n H) c).map fun c' => .func f a' c'
    | .agg cs => (omap (exp n H) cs).map .agg
    | .tup vs => (omap (exp n H) vs).map .tup
    | v => some v

/-- The numbers of the own rows that 'exp' comes to. -/
noncomputable def rch : Nat → List Mem → PV → List Nat
  | 0, _, _ => []
  | n + 1, H, v => match v with
    | .ref id i l _ => match H[id]? with
      | some (.row es _ _) => id :: ((es.drop i).take l).flatMap fun c => c.flatMap (rch n H)
      | _ => []
    | .ptr id i _ => match H[id]? with
      | some (.row es _ _) => id :: ((es[i]?).getD []).flatMap (rch n H)
      | _ => []
    | .func _ a c => a.flatMap (rch n H) ++ c.flatMap (rch n H)
    | .agg cs => cs.flatMap (rch n H)
    | .tup vs => vs.flatMap (rch n H)
    | _ => []

noncomputable def freeze1 (H : List Mem) (id : Nat) : List Mem :=
  match H[id]? with
  | some (.row es z _) => H.set id (.row es z false)
  | _ => H
noncomputable def freeze (ids : List Nat) (H : List Mem) : List Mem := ids.foldl freeze1 H

/-- Does a value lead to no memory? -/
noncomputable def noMem : PV → Bool
  | .bool _ | .int _ _ | .str _ | .nilp | .nils | .nilf | .nilm => true
  | .lst es => es.isEmpty
  | .agg cs => cs.all fun c => match c with | .bool _ | .int _ _ | .str _ | .nilp | .nils | .nilf | .nilm => true | .lst es => es.isEmpty | _ => false
  | .tup vs => vs.all fun c => match c with
    | .bool _ | .int _ _ | .str _ | .nilp | .nils | .nilf | .nilm => true
    | .lst es => es.isEmpty
    | .agg cs => cs.all fun c => match c with | .bool _ | .int _ _ | .str _ | .nilp | .nils | .nilf | .nilm => true | .lst es => es.isEmpty | _ => false
    | _ => false
  | _ => false

noncomputable def keepT (tm : List (Nat × PV)) : List Nat → List (Nat × PV)
  | [] => []
  | k :: r => match get tm k with
    | some v => (k, v) :: keepT tm r
    | none => keepT tm r

/-- Does a value lead to no own memory? -/
noncomputable def noIds : PV → Bool
  | .ref _ _ _ _ | .ptr _ _ _ | .map _ => false
  | .func _ a c => a.isEmpty && c.isEmpty
  | .agg cs => cs.all fun c => match c with | .ref _ _ _ _ | .ptr _ _ _ | .map _ | .agg _ | .tup _ | .func _ _ _ => false | _ => true
  | .tup vs => vs.isEmpty
  | _ => true
noncomputable def flatM : Mem → Bool
  | .row es _ _ => es.all fun c => c.all noIds
  | .map es => es.all fun (k, v) => noIds k && noIds v
  | .dead => false

noncomputable def idsOf1 : PV → List Nat
  | .ref id _ _ _ | .ptr id _ _ | .map id => [id]
  | _ => []
noncomputable def idsOf : PV → List Nat
  | .agg cs => cs.flatMap idsOf1
  | .func _ a c => a.flatMap idsOf1 ++ c.flatMap idsOf1
  | v => idsOf1 v
noncomputable def okIds1 : PV → Bool
  | .agg _ | .tup _ | .func _ _ _ => false
  | _ => true
noncomputable def okIds : PV → Bool
  | .agg cs => cs.all okIds1
  | .func _ a c => a.all okIds1 && c.all okIds1
  | .tup vs => vs.isEmpty
  | _ => true
noncomputable def addNew (l : List Nat) (i : Nat) : List Nat := if l.contains i then l else l ++ [i]
noncomputable def pos (i : Nat) : List Nat → Nat
  | [] => 0
  | j :: r => bif Nat.beq i j then 0 else pos i r + 1
noncomputable def ren1 (l : List Nat) : PV → PV
  | .ref id i n m => .ref (pos id l) i n m
  | .ptr id i r => .ptr (pos id l) i r
  | .map id => .map (pos id l)
  | v => v
noncomputable def ren (l : List Nat) : PV → PV
  | .agg cs => .agg (cs.map (ren1 l))
  | .func f a c => .func f (a.map (ren1 l)) (c.map (ren1 l))
  | v => ren1 l v

noncomputable def idsM (m : Mem) : List Nat := bif flatM m then [] else match m with
  | .row es _ _ => es.flatMap fun c => c.flatMap idsOf
  | .map es => es.flatMap fun x => idsOf x.1 ++ idsOf x.2
  | .dead => []
noncomputable def okM (m : Mem) : Bool := bif flatM m then true else match m with
  | .row es _ _ => es.all fun c => c.all okIds
  | .map es => es.all fun x => okIds x.1 && okIds x.2
  | .dead => true
noncomputable def renM (l : List Nat) (m : Mem) : Mem := bif flatM m then m else match m with
  | .row es z m => .row (es.map fun c => c.map (ren l)) z m
  | .map es => .map (es.map fun x => (ren l x.1, ren l x.2))
  | .dead => .dead
noncomputable def idsAt (H : List Mem) (i : Nat) : List Nat := match H[i]? with | some m => idsM m | none => []
noncomputable def closeIds (H : List Mem) : Nat → List Nat → List Nat
  | 0, ids => ids
  | n + 1, ids => closeIds H n ((ids.flatMap (idsAt H)).foldl addNew ids)

/-- Own memory with only what the variables lead to, numbered in their order. -/
noncomputable def compact (tm : List (Nat × PV)) (H : List Mem) : Option St :=
  let ids := closeIds H 3 ((tm.flatMap fun x => idsOf x.2).foldl addNew [])
  if tm.all (fun x => okIds x.2) then
    (omap (fun i => (H[i]?).bind fun m => if okM m && (idsM m).all ids.contains then some (renM ids m) else none) ids).map fun H' => ⟨tm.map fun x => (x.1, ren ids x.2), H'⟩
  else none

noncomputable def enterT : Nat → List PV → List (Nat × PV)
  | _, [] => []
  | i, v :: r => (i, v) :: enterT (i + 1) r


noncomputable def sh1 (b : Nat) : PV → PV
  | .ref id i n m => .ref (b + id) i n m
  | .ptr id i r => .ptr (b + id) i r
  | .map id => .map (b + id)
  | v => v
noncomputable def sh (b : Nat) : PV → PV
  | .agg cs => .agg (cs.map (sh1 b))
  | .func f a c => .func f (a.map (sh1 b)) (c.map (sh1 b))
  | v => sh1 b v
noncomputable def shM (b : Nat) : Mem → Mem
  | .row es z m => .row (es.map fun c => c.map (sh b)) z m
  | .map es => .map (es.map fun x => (sh b x.1, sh b x.2))
  | .dead => .dead
noncomputable def okMs : Mem → Bool
  | .row es _ _ => es.all fun c => c.all okIds
  | .map es => es.all fun x => okIds x.1 && okIds x.2
  | .dead => true
/-- Does a value lead to no foreign memory? -/
noncomputable def self1 : PV → Bool
  | .lst es => es.isEmpty
  | .box _ _ | .agg _ | .func _ _ _ | .tup _ => false
  | _ => true
noncomputable def selfP : PV → Bool
  | .agg cs => cs.all self1
  | .func _ a c => a.all self1 && c.all self1
  | v => self1 v
noncomputable def selfM : Mem → Bool
  | .row es _ _ => es.all fun c => c.all selfP
  | .map es => es.all fun x => selfP x.1 && selfP x.2
  | .dead => true
noncomputable def parts1 : PV → List PV
  | .tup vs => vs
  | v => [v]
noncomputable def rejoin : PV → List PV → PV
  | .tup _, vs => .tup vs
  | _, v :: _ => v
  | v, [] => v

structure Ev where
  ex : Cx → Code → St → Option (Ex × St)
  rn : FuncId → List PV → List Mem → Option (PV × List Mem)

section
variable (P : Program) (h : Hints) (E : Ev)

/-- A call of a function as a function of plain values. -/
noncomputable def pureCall (f : FuncId) (qs : List PV) : Option PV :=
  match h.prim f with
  | some g => (g qs).bind fun v => exp expFuel [] v
  | none => (E.rn f qs []).bind fun x => exp expFuel x.2 x.1
/-- A call whose result is own memory of the caller: the value, the new rows, whether they lead to no foreign memory. -/
noncomputable def impCall (f : FuncId) (qs : List PV) (base : Nat) : Option (PV × List Mem × Bool) :=
  (E.rn f qs []).bind fun x => (compact (enterT 0 (parts1 x.1)) x.2).bind fun st =>
  if (st.tm.all fun y => okIds y.2) && st.hp.all okMs then
    some (rejoin x.1 (st.tm.map fun y => sh base y.2), st.hp.map (shM base), (st.tm.all fun y => selfP y.2) && st.hp.all selfM)
  else none
noncomputable def pureC (f : FuncId) (args qs : List PV) (H : List Mem) : Option (PV × List Mem × List Nat) :=
  (pureCall h E f qs).bind fun q =>
  if h.mem f then some (q, [], args.flatMap (rch expFuel H)) else if noMem q then some (q, [], []) else none
noncomputable def impC (f : FuncId) (args qs : List PV) (H : List Mem) (base : Nat) : Option (PV × List Mem × List Nat) :=
  (impCall E f qs base).map fun r => (r.1, r.2.1, bif r.2.2 then [] else args.flatMap (rch expFuel H))
/-- The same in own memory: the value, new own rows, what is frozen. -/
noncomputable def callC (f : FuncId) (args : List PV) (H : List Mem) (base : Nat) : Option (PV × List Mem × List Nat) :=
  (omap (exp expFuel H) args).bind fun qs => bif h.imp f then impC E f args qs H base else pureC h E f args qs H

noncomputable def builtinR (H : List Mem) (b : Builtin) (ts : Array TypeId) (args : List PV) : Option PV :=
  match b, args with
  | .len, [x] => (ts[0]?).bind fun t => lenPV P H t x
  | .min, x :: r => ofold min2 r x
  | .max, x :: r => ofold max2 r x
  | _, _ => none

noncomputable def val (v : Option PV) : Option (PV × List Mem × List Nat) := v.map fun v => (v, [], [])

abbrev Res := Option (PV × List Mem × List Nat)

noncomputable def aPick (ρ : Operand → Option PV) (c a b : Operand) : Option PV := (ρ c).bind fun t => match t with | .bool t => if t then ρ a else ρ b | _ => none
noncomputable def aAlloc (base : Nat) (t : TypeId) : Res := (zcells P t).map fun cs => (.ptr base 0 0, [Mem.row [cs] cs.length true], [])
noncomputable def aBox (base : Nat) (v : Option PV) : Res := (v.bind noTup).map fun v => (.ptr base 0 0, [Mem.row [cellsOf v] (cellsOf v).length true], [])
noncomputable def aBuild (ρ : Operand → Option PV) (t : TypeId) (parts : Array (Nat × Operand)) : Option PV := (partsOf ρ parts).bind fun ps => buildPV P t ps
noncomputable def aBuildSlice (base : Nat) (ρ : Operand → Option PV) (t : TypeId) (n : Nat) (parts : Array (Nat × Operand)) : Res :=
  (partsOf ρ parts).bind fun ps => (buildSliceM P t n ps).map fun m => (.ref base 0 n n, [m], [])
noncomputable def aLoad (H : List Mem) (t : TypeId) (v : Option PV) : Option PV := v.bind fun p => loadPV P H t p
noncomputable def aNilCheck (v : Option PV) : Option PV := v.bind fun p => match p with
    | .ptr _ _ _ | .box _ _ | .func _ _ _ => some p
    | _ => none
noncomputable def aBin (op : BinOp) (t : TypeId) (x y : Option PV) : Option PV := x.bind fun a => y.bind fun b => binPV P op t a b
noncomputable def aUn (op : UnOp) (x : Option PV) : Option PV := x.bind fun a => unPV op a
noncomputable def aConv (H : List Mem) (s d : TypeId) (x : Option PV) : Option PV := x.bind fun a => convPV P H s d a
noncomputable def aFunc (ρ : Operand → Option PV) (fn : Fn) (first caps : Array Operand) : Option PV :=
  match fn with
  | .func f => (omap ρ first.toList).bind fun a => (omap ρ caps.toList).map fun c => .func f a c
  | _ => none
noncomputable def aMakeMap (base : Nat) (t : TypeId) (r : Option Operand) : Res :=
  match r with
  | none => (strMap P t).map fun _ => (.map base, [Mem.map []], [])
  | some _ => none
noncomputable def aMakeSlice (base : Nat) (t : TypeId) (l c : Option PV) : Res :=
  l.bind fun l => c.bind fun c => (makeSliceM P t l c).map fun g => (.ref base 0 g.2.1 g.2.2, [g.1], [])
noncomputable def aOpt (ρ : Operand → Option PV) (x : Option Operand) : Option (Option PV) := match x with | none => some none | some l => (ρ l).map some
noncomputable def aSlice (H : List Mem) (ρ : Operand → Option PV) (t : TypeId) (x : Operand) (lo hi mx : Option Operand) : Option PV :=
  (ρ x).bind fun v => (aOpt ρ lo).bind fun l => (aOpt ρ hi).bind fun k => (aOpt ρ mx).bind fun m => slicePV P H t v l k m
noncomputable def aFieldAddr (s : TypeId) (v : Option PV) (f : Nat) : Option PV := v.bind fun v => fieldAddrPV P s v f
noncomputable def aField (s : TypeId) (v : Option PV) (f : Nat) : Option PV := v.bind fun v => fieldPV P s v f
noncomputable def aIndexAddr (H : List Mem) (t : TypeId) (v j : Option PV) : Option PV := v.bind fun v => j.bind fun j => indexAddrPV P H t v j
noncomputable def aIndex (t : TypeId) (v j : Option PV) : Option PV := v.bind fun v => j.bind fun j => indexPV P t v j
noncomputable def aLookup (H : List Mem) (t : TypeId) (v j : Option PV) (ok : Bool) : Option PV := v.bind fun v => j.bind fun j => lookupPV P H t v j ok
noncomputable def aExtract (v : Option PV) (i : Nat) : Option PV := v.bind fun v => match v with | .tup vs => vs[i]? | _ => none
noncomputable def aBuiltinR (H : List Mem) (ρ : Operand → Option PV) (b : Builtin) (c : Call) : Option PV := (omap ρ c.args.toList).bind fun vs => builtinR P H b c.argTypes vs
noncomputable def aCallC (H : List Mem) (base : Nat) (ρ : Operand → Option PV) (f : FuncId) (c : Call) : Res :=
  if h.opn f then none else (omap ρ c.args.toList).bind fun vs => callC h E f vs H base
noncomputable def aCallR (H : List Mem) (base : Nat) (ρ : Operand → Option PV) (c : Call) : Res :=
  match c.callee with
  | .builtin b => val (aBuiltinR P H ρ b c)
  | .value (.func f) => aCallC h E H base ρ f c
  | _ => none

noncomputable def opR (H : List Mem) (base : Nat) (ρ : Operand → Option PV) (o : Oper) : Res :=
  match o.op with
  | .move x => val (ρ x)
  | .assign x => val (ρ x)
  | .pick c a b => val (aPick ρ c a b)
  | .alloc t => aAlloc P base t
  | .box _ x => aBox base (ρ x)
  | .build t parts => val (aBuild P ρ t parts)
  | .buildSlice t n parts => aBuildSlice P base ρ t n parts
  | .load t a => val (aLoad P H t (ρ a))
  | .nilCheck x => val (aNilCheck (ρ x))
  | .binOp op t x y _ => val (aBin P op t (ρ x) (ρ y))
  | .unOp op _ x => val (aUn op (ρ x))
  | .convert s d x => val (aConv P H s d (ρ x))
  | .makeFunc fn first caps => val (aFunc ρ fn first caps)
  | .makeMap t r => aMakeMap P base t r
  | .makeSlice t l c => aMakeSlice P base t (ρ l) (ρ c)
  | .slice t x lo hi mx => val (aSlice P H ρ t x lo hi mx)
  | .fieldAddr s x f => val (aFieldAddr P s (ρ x) f)
  | .field s x f => val (aField P s (ρ x) f)
  | .indexAddr t x i => val (aIndexAddr P H t (ρ x) (ρ i))
  | .index t x i => val (aIndex P t (ρ x) (ρ i))
  | .lookup t x k ok => val (aLookup P H t (ρ x) (ρ k) ok)
  | .extract x i => val (aExtract (ρ x) i)
  | .call c => aCallR P h E H base ρ c
  | _ => none

noncomputable def storeH (H : List Mem) (t : TypeId) (a x : PV) : Option (List Mem) :=
  match a with
  | .ptr id i r => match H[id]? with
    | some (.row es z true) => (es[i]?).bind fun c => (tsize P t).bind fun n =>
        if (cellsOf x).length = n ∧ r + n ≤ c.length then some (H.set id (.row (es.set i (splice c r (cellsOf x))) z true)) else none
    | _ => none
  | _ => none

/-- What 'append' and 'copy' take from. -/
noncomputable def srcOf (H : List Mem) : PV → Option (List (List PV))
  | .str b => some (byteCells b)
  | x => elems H x
noncomputable def notIntT (P : Program) (t : Option TypeId) : Bool :=
  match t with
  | none => true
  | some t => match P.underlying t with
    | some (.int _) => false
    | some _ => true
    | none => false

/-- 'append': the value, the heap behind it. -/
noncomputable def appendS (H : List Mem) (z by_ : Nat) (s : PV) (new : List (List PV)) : Option (PV × List Mem) :=
  match s with
  | .nils => if new.isEmpty then some (.nils, H) else if new.length * by_ ≤ 140737488355328 then some (.ref H.length 0 new.length new.length, H ++ [Mem.row new z true]) else none
  | .ref id i n m => match H[id]? with
    | some (.row es z' true) =>
      if z' = z ∧ i + n ≤ es.length then
        if new.isEmpty then some (s, H)
        else if n + new.length ≤ m then
          if i + (n + new.length) ≤ es.length then some (.ref id i (n + new.length) m, H.set id (.row (splice es (i + n) new) z true)) else none
        else if (n + new.length) * by_ ≤ 140737488355328 then
          some (.ref H.length 0 (n + new.length) (n + new.length), (H.set id .dead) ++ [Mem.row ((es.drop i).take n ++ new) z true])
        else none
      else none
    | _ => none
  | _ => none
noncomputable def appendH (H : List Mem) (ts : Array TypeId) (s x : PV) : Option (PV × List Mem) :=
  (ts[0]?).bind fun t => (telem P t).bind fun e => (tsize P e).bind fun z => (tbytes P e).bind fun by_ => (zcells P e).bind fun zero => (srcOf H x).bind fun new =>
  if notIntT P (ts[1]?) = true ∧ 0 < by_ ∧ 0 < z ∧ zero.length = z ∧ headOk new z = true then appendS H z by_ s new else none

/-- 'copy'. -/
noncomputable def copyH (H : List Mem) (ts : Array TypeId) (d x : PV) : Option (PV × List Mem) :=
  (ts[0]?).bind fun t => (telem P t).bind fun e => (tsize P e).bind fun z => (srcOf H x).bind fun src =>
  if 0 < z ∧ headOk src z = true then
  match d with
  | .nils => some (.int .i64 0, H)
  | .ref id i n _ => match H[id]? with
    | some (.row es z' true) =>
      if z' = z ∧ i + n ≤ es.length then
        some (.int .i64 (min src.length n : Nat), H.set id (.row (splice es i (src.take n)) z true))
      else none
    | _ => none
  | _ => none
  else none

/-- 'clear' of a slice. -/
noncomputable def clearH (H : List Mem) (ts : Array TypeId) (d : PV) : Option (PV × List Mem) :=
  (ts[0]?).bind fun t => (telem P t).bind fun e => (tsize P e).bind fun z => (zcells P e).bind fun zero =>
  if 0 < z ∧ zero.length = z then
  match d with
  | .nils => some (.tup [], H)
  | .ref id i n _ => match H[id]? with
    | some (.row es z' true) =>
      if z' = z ∧ i + n ≤ es.length then some (.tup [], H.set id (.row (splice es i (List.replicate n zero)) z true)) else none
    | _ => none
  | _ => none
  else none

noncomputable def callAny (f : FuncId) (args : List PV) (H : List Mem) : Option (PV × List Mem) :=
  if h.opn f then E.rn f args H
  else (callC h E f args H H.length).map fun x => (x.1, freeze x.2.2 H ++ x.2.1)

abbrev ResW := Option (PV × List Mem)
noncomputable def wStore (H : List Mem) (t : TypeId) (p v : Option PV) : ResW := p.bind fun p => (v.bind noTup).bind fun v => (storeH P H t p v).map fun H' => (.tup [], H')
noncomputable def wMap (H : List Mem) (t : TypeId) (m k x : Option PV) : ResW :=
  (strMap P t).bind fun _ => m.bind fun m => k.bind fun k => x.bind fun v => (keyOf k).bind fun key =>
      match m with
      | .map id => match H[id]? with
        | some (.map es) => (mapPut key v es).map fun es' => (.tup [], H.set id (.map es'))
        | _ => none
      | _ => none
/-- Does a slice type hold its elements by content? -/
noncomputable def frzT (ts : Array TypeId) : Bool := match ts[0]? with | some t => h.frz t | none => false
noncomputable def appendF (H : List Mem) (ts : Array TypeId) (s x : PV) : Option (PV × List Mem) :=
  bif frzT h ts then (exp expFuel H x).bind fun x' => appendH P (freeze (rch expFuel H x) H) ts s x' else appendH P H ts s x
noncomputable def wAppend (H : List Mem) (ρ : Operand → Option PV) (c : Call) : ResW := (omap ρ c.args.toList).bind fun vs => match vs with | [s, x] => appendF P h H c.argTypes s x | _ => none
noncomputable def wCopy (H : List Mem) (ρ : Operand → Option PV) (c : Call) : ResW := (omap ρ c.args.toList).bind fun vs => match vs with | [s, x] => copyH P H c.argTypes s x | _ => none
noncomputable def wClear (H : List Mem) (ρ : Operand → Option PV) (c : Call) : ResW := (omap ρ c.args.toList).bind fun vs => match vs with | [s] => clearH P H c.argTypes s | _ => none
noncomputable def wOpen (H : List Mem) (ρ : Operand → Option PV) (f : FuncId) (c : Call) : ResW := (omap ρ c.args.toList).bind fun vs => callAny h E f vs H
noncomputable def wDyn (H : List Mem) (ρ : Operand → Option PV) (x : Operand) (c : Call) : ResW :=
  (ρ x).bind fun fv => match fv with
      | .func f first caps => (omap ρ c.args.toList).bind fun vs => callAny h E f (first ++ vs ++ caps) H
      | _ => none
noncomputable def wBuiltin (H : List Mem) (ρ : Operand → Option PV) (b : Builtin) (c : Call) : ResW :=
  match b with
  | .append => wAppend P h H ρ c
  | .copy => wCopy P H ρ c
  | .clear => wClear P H ρ c
  | _ => none
noncomputable def wCall (H : List Mem) (ρ : Operand → Option PV) (c : Call) : ResW :=
  match c.callee with
  | .builtin b => wBuiltin P h H ρ b c
  | .value (.func f) => wOpen h E H ρ f c
  | .value x => wDyn h E H ρ x c
  | _ => none

noncomputable def opW (H : List Mem) (ρ : Operand → Option PV) (o : Oper) : ResW :=
  match o.op with
  | .store t a x => wStore P H t (ρ a) (ρ x)
  | .mapUpdate t m k x => wMap P H t (ρ m) (ρ k) (ρ x)
  | .insert t m k x => wMap P H t (ρ m) (ρ k) (ρ x)
  | .call c => wCall P h E H ρ c
  | _ => none

/-- Does an operation write memory (or call what may)? -/
noncomputable def isWC (c : Call) : Bool :=
  match c.callee with
  | .builtin b => (match b with | .append | .copy | .clear => true | _ => false)
  | .value (.func f) => h.opn f
  | _ => true
noncomputable def isW (o : Oper) : Bool :=
  match o.op with
  | .store _ _ _ | .mapUpdate _ _ _ _ | .insert _ _ _ _ => true
  | .call c => isWC h c
  | _ => false

noncomputable def outR (H : List Mem) (r : Res) : ResW := r.map fun x => (x.1, freeze x.2.2 H ++ x.2.1)
noncomputable def out0 (H : List Mem) (v : Option PV) : ResW := v.map fun v => (v, H)
noncomputable def aCall (H : List Mem) (ρ : Operand → Option PV) (c : Call) : ResW :=
  match c.callee with
  | .builtin b => (match b with | .append => wAppend P h H ρ c | .copy => wCopy P H ρ c | .clear => wClear P H ρ c | b => out0 H (aBuiltinR P H ρ b c))
  | .value (.func f) => if h.opn f then wOpen h E H ρ f c else outR H (aCallC h E H H.length ρ f c)
  | .value x => wDyn h E H ρ x c
  | _ => none

/-- An operation: the value, the heap behind it. -/
noncomputable def opA (H : List Mem) (ρ : Operand → Option PV) (o : Oper) : ResW :=
  match o.op with
  | .move x => out0 H (ρ x)
  | .assign x => out0 H (ρ x)
  | .pick c a b => out0 H (aPick ρ c a b)
  | .alloc t => outR H (aAlloc P H.length t)
  | .box _ x => outR H (aBox H.length (ρ x))
  | .build t parts => out0 H (aBuild P ρ t parts)
  | .buildSlice t n parts => outR H (aBuildSlice P H.length ρ t n parts)
  | .load t a => out0 H (aLoad P H t (ρ a))
  | .nilCheck x => out0 H (aNilCheck (ρ x))
  | .binOp op t x y _ => out0 H (aBin P op t (ρ x) (ρ y))
  | .unOp op _ x => out0 H (aUn op (ρ x))
  | .convert s d x => out0 H (aConv P H s d (ρ x))
  | .makeFunc fn first caps => out0 H (aFunc ρ fn first caps)
  | .makeMap t r => outR H (aMakeMap P H.length t r)
  | .makeSlice t l c => outR H (aMakeSlice P H.length t (ρ l) (ρ c))
  | .slice t x lo hi mx => out0 H (aSlice P H ρ t x lo hi mx)
  | .fieldAddr s x f => out0 H (aFieldAddr P s (ρ x) f)
  | .field s x f => out0 H (aField P s (ρ x) f)
  | .indexAddr t x i => out0 H (aIndexAddr P H t (ρ x) (ρ i))
  | .index t x i => out0 H (aIndex P t (ρ x) (ρ i))
  | .lookup t x k ok => out0 H (aLookup P H t (ρ x) (ρ k) ok)
  | .extract x i => out0 H (aExtract (ρ x) i)
  | .call c => aCall P h E H ρ c
  | .store t a x => wStore P H t (ρ a) (ρ x)
  | .mapUpdate t m k x => wMap P H t (ρ m) (ρ k) (ρ x)
  | .insert t m k x => wMap P H t (ρ m) (ρ k) (ρ x)
  | _ => none

noncomputable def putT (N : Nat) (dst : Option Tmp) (v : PV) (tm : List (Nat × PV)) : Option (List (Nat × PV)) :=
  match dst with
  | none => some tm
  | some d => if d < N then some ((d, v) :: tm) else none

/-- Is an operation run, going by its guard? -/
noncomputable def wants (ops : Array Oper) (tm : List (Nat × PV)) (o : Oper) : Option Bool :=
  match o.guard with
  | none => some true
  | some (j, want) => match ((ops[j]?).bind (·.dst)).bind (get tm) with
    | some (.bool b) => some (b == want)
    | some (.tup []) => some false
    | _ => none

noncomputable def stepOp (N : Nat) (ops : Array Oper) (o : Oper) (s : St) : Option St :=
  (wants ops s.tm o).bind fun b =>
  bif b then (opA P h E s.hp (ev s.tm) o).bind fun x => (putT N o.dst x.1 s.tm).map fun tm => ⟨tm, x.2⟩
  else (putT N o.dst (.tup []) s.tm).map fun tm => ⟨tm, s.hp⟩

noncomputable def stepOps (N : Nat) (ops : Array Oper) (l : List Oper) : St → Option St :=
  List.rec some (fun o _ ih s => (stepOp P h E N ops o s).bind ih) l

noncomputable def has (i : Nat) (l : List Nat) : Bool := List.rec false (fun j _ ih => bif Nat.beq i j then true else ih) l
/-- An operation that leaves memory as it stands: it may stand behind a write that it does not precede, where it answers the same there. -/
noncomputable def lightOp (H : List Mem) (ρ : Operand → Option PV) (o : Oper) : Option PV :=
  (opR P h E H H.length ρ o).bind fun x => match x with | (v, [], []) => some v | _ => none
noncomputable def stepL (N : Nat) (ops : Array Oper) (o : Oper) (s : St) : Option St :=
  (wants ops s.tm o).bind fun b =>
  bif b then (lightOp P h E s.hp (ev s.tm) o).bind fun v => (putT N o.dst v s.tm).map fun tm => ⟨tm, s.hp⟩
  else (putT N o.dst (.tup []) s.tm).map fun tm => ⟨tm, s.hp⟩
noncomputable def stepE (N : Nat) (ops : Array Oper) (ls : List Nat) (i : Nat) (o : Oper) (s : St) : Option St :=
  bif has i ls then stepL P h E N ops o s else stepOp P h E N ops o s
/-- Are two values one and the same? (The kinds that light operations bring.) -/
noncomputable def samePV : PV → PV → Bool
  | .int k a, .int l b => decide (k = l) && decide (a = b)
  | .bool a, .bool b => a == b
  | .ref i a n m, .ref j b o q => Nat.beq i j && Nat.beq a b && Nat.beq n o && Nat.beq m q
  | .ptr i a n, .ptr j b o => Nat.beq i j && Nat.beq a b && Nat.beq n o
  | .nils, .nils => true
  | .nilp, .nilp => true
  | _, _ => false
/-- Light operations that were done, with the variables that they saw and what they brought: do they bring the same once more? -/
noncomputable def again (acc : List (Oper × List (Nat × PV) × PV)) (H : List Mem) : Option Unit :=
  List.rec (some ()) (fun x _ ih => (lightOp P h E H (ev x.2.1) x.1).bind fun v => bif samePV v x.2.2 then ih else none) acc
noncomputable def addL (ops : Array Oper) (o : Oper) (s : St) (acc : List (Oper × List (Nat × PV) × PV)) : Option (List (Oper × List (Nat × PV) × PV)) :=
  (wants ops s.tm o).bind fun b => bif b then (lightOp P h E s.hp (ev s.tm) o).map fun v => (o, s.tm, v) :: acc else some acc
noncomputable def stepOpsL (N : Nat) (ops : Array Oper) (ls : List Nat) (l : List Oper) : Nat → List (Oper × List (Nat × PV) × PV) → St → Option St :=
  List.rec (fun _ _ s => some s) (fun o _ ih i acc s => (stepE P h E N ops ls i o s).bind fun s' =>
    bif has i ls then (addL P h E ops o s acc).bind fun acc' => ih (i + 1) acc' s' else (again P h E acc s'.hp).bind fun _ => ih (i + 1) acc s') l

noncomputable def regA (N : Nat) (ls : List Nat) (ops : Array Oper) (s : St) : Option St :=
  match ls with
  | [] => stepOps P h E N ops ops.toList s
  | ls => stepOpsL P h E N ops ls ops.toList 0 [] s

noncomputable def firstReg : Code → Nat
  | .region id _ _ => id
  | .seq a _ => firstReg a
  | .block _ b => firstReg b
  | .scope b => firstReg b
  | _ => 0

noncomputable def maskK (k : Option (List Nat × Bool)) (c : Cx) (s : St) : Option St :=
  match k with
  | none => some s
  | some (ks, comp) => if comp then (if c.base = 0 then compact (keepT s.tm ks) s.hp else none) else some ⟨keepT s.tm ks, s.hp⟩

noncomputable def resOf (tm : List (Nat × PV)) (H : List Mem) : ResultVar → Option PV
  | .tmp t => get tm t
  | .cell a t => (get tm a).bind fun p => loadPV P H t p

noncomputable def oneOrTup : List PV → PV
  | [v] => v
  | vs => .tup vs

noncomputable def step : Ev where
  ex := fun c code s => match code with
    | .skip => some (.normal, s)
    | .label _ => some (.normal, s)
    | .region id ops _ => (regA P h E c.N (h.light c.fid id) ops s).map fun s' => (.normal, s')
    | .seq a b => (E.ex c a s).bind fun (e, s') => match e with
      | .normal => E.ex c b s'
      | e => some (e, s')
    | .cond x a b => (ev s.tm x).bind fun v => match v with
      | .bool t => E.ex c (if t then a else b) s
      | _ => none
    | .block id b => (E.ex c b s).bind fun (e, s') => match e with
      | .exit j => if j = id then (maskK (h.keepB c.fid id) c s').map fun s'' => (.normal, s'') else some (.exit j, s')
      | .normal => (maskK (h.keepB c.fid id) c s').map fun s'' => (.normal, s'')
      | .ret => some (.ret, s')
    | .loop b => (maskK (h.keep c.fid (firstReg b)) c s).bind fun s0 => (E.ex c b s0).bind fun (e, s') => match e with
      | .normal => E.ex c (.loop b) s'
      | e => some (e, s')
    | .exit id => some (.exit id, s)
    | .ret => some (.ret, s)
    | _ => none
  rn := fun f args H =>
    if h.ok f then
    match P.funcs[f]? with
    | some fn => match fn.body with
      | some code => if args.length ≤ fn.ntmps then
          (E.ex ⟨f, H.length, fn.ntmps⟩ code ⟨enterT 0 args, H⟩).bind fun (e, s) => match e with
          | .exit _ => none
          | _ => (omap (resOf P s.tm s.hp) fn.results.toList).map fun vs => (oneOrTup vs, s.hp)
        else none
      | none => none
    | none => none
    else none
end

noncomputable def bot : Ev where
  ex := fun _ _ _ => none
  rn := fun _ _ _ => none

noncomputable def evalF (P : Program) (h : Hints) (n : Nat) : Ev :=
  Nat.rec bot (fun _ ih => step P h ih) n

end Go.Am
