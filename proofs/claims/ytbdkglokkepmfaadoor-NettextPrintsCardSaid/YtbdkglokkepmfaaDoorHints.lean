/-
 The hints for this seat's program; the static facts of its text.
-/
import Derived.Test.YtbdkglokkepmfaaDoorAmC
import Derived.Lib.LaidTab
import Derived.Lib.ItoaNum
import Derived.Lib.ItoaMem
import Derived.Lib.Join
import Derived.Lib.Split
import Derived.Lib.Atoi
import Derived.Test.YtbdkglokkepmfaaDoorRows
set_option linter.constructorNameAsVariable false
set_option linter.unusedSimpArgs false
set_option linter.unusedVariables false
namespace Go.Proofs.YtbdkglokkepmfaaDoor
theorem ZqD {P:Program} {w w':World} {name:String} {k:IntKind} {zs:List Int} {g:Nat} (hg:P.globalNamed name=some g) (hb:w'.heap[g]? =w.heap[g]?) (h:Lib.TabIs P w name k zs):Lib.TabIs P w' name k zs:=by
 unfold Lib.TabIs World.var? at*
 simp only[hg,Option.bind_some]at h⊢
 rw[hb]
 exact h
theorem ZnW {w w':World} {g:Nat} {v:Value} (hb:w'.heap[g]? =w.heap[g]?) (h:w.cell? ⟨g,0,none⟩=some v):w'.cell? ⟨g,0,none⟩=some v:=by
 rw[Am.cell_of_blk hb]
 exact h
abbrev Zhw:String:= "internal/strconv.uint64pow10"
abbrev ZrV:String:= "internal/bytealg.MaxLen"
noncomputable instance netLaid:Am.Laid where
 ok S w:=(∃g,Tryd.prog.globalNamed Zhw=some g∧S g∧Lib.TabIs Tryd.prog w Zhw .u64 Lib.pow10Tab)∧ ∃g m,Tryd.prog.globalNamed ZrV=some g∧S g∧w.cell? ⟨g,0,none⟩=some (.int .i64 m)
 mono:=by
  rintro S w S' w' h ⟨⟨g,h1,h2,h3⟩,g',m,h4,h5,h6⟩
  exact⟨⟨g,h1,(h g h2).1,ZqD h1 (h g h2).2 h3⟩,g',m,h4,(h g' h5).1,ZnW (h g' h5).2 h6⟩
noncomputable def hOk:List Nat:=
 [3,4,5,6,7,8,9,10,11,12,13,14,15,16,17,18,19,20,21,23,24,25,26,27,28,29,30,31,32,33,34,35,37,38,39,40,41,42,43]
noncomputable def Zvv:List Nat:=
 [16,19,25,26,27,28,30,39,40]
noncomputable def Zvy:List Nat:=
 [6,8,11,14,18,22]
noncomputable def Zuc:List (Nat×List (Nat×List Nat)):=
 [(25,[(2,[0]),(5,[0]),(10,[0]),(15,[0]),(20,[0]),(25,[0])])]
noncomputable def Zog:Am.Hints:=Am.mkHints hOk Zvv Zvy [] [] [] Zuc [49]
set_option maxRecDepth 100000 in
theorem Zo8:Am.Static Tryd.prog Zog:=Am.static_of Tryd.checked.mixed (by decide+kernel)
def ZtH:List Am.PV→Option Am.PV
 | []=>some (.bool true)
 |_=>none
def ZtV:Nat→Nat→List UInt8
 |0,_=> []
 |f+1,n=>(bif decide (n<10)then[]else ZtV f (n/10))++ [UInt8.ofNat (48+n % 10)]
def ZuH (n:Int):List UInt8:=bif decide (n<0)then 45::ZtV 8 n.natAbs else ZtV 8 n.toNat
def ZtN:List Am.PV→Option Am.PV
 | [.int .i64 n]=>bif decide (-1000000≤n)&&decide (n≤1000000)then some (.str ⟨(ZuH n).toArray⟩)else none
 |_=>none
def ZhE:List (List Am.PV)→Option (List (List UInt8))
 | []=>some []
 | [.str s]::r=>(ZhE r).map (s.data.toList:: ·)
 |_=>none
def ZeV (sep:List UInt8):List (List UInt8)→List UInt8
 | []=> []
 | [x]=>x
 |x::y::r=>x++(sep++ZeV sep (y::r))
def Zox:List Am.PV→Option Am.PV
 | [.lst es, .str sep]=>match ZhE es with
  |some (x::r)=>bif Nat.ble (ZeV sep.data.toList (x::r)).length 1000000&&Nat.ble (x::r).length 1000000 then some (.str ⟨(ZeV sep.data.toList (x::r)).toArray⟩)else none
  |_=>none
 |_=>none
def ZmG:List Am.PV→Option Am.PV
 | [.str s, .str sep]=>bif decide (s.size<4294967281)&&decide (1≤sep.size)then some (.lst ((Lib.split s.data.toList sep.data.toList).map fun l=> [.str ⟨l.toArray⟩]))else none
 |_=>none
def Zp3:List Am.PV→Option Am.PV
 | [.str s]=>match decide (s.size≤18),Lib.atoi s.data.toList with
  |true,some n=>some (.tup [.int .i64 n, .nili])
  |_,_=>none
 |_=>none
def Zmp:FuncId→Option (List Am.PV→Option Am.PV)
 |44=>some ZtN
 |45=>some Zox
 |22=>some ZmG
 |49=>some Zp3
 |_=>none
def prims:FuncId→Option (List Am.PV→Option Am.PV)
 |44=>some ZtN
 |45=>some Zox
 |22=>some ZmG
 |49=>some Zp3
 |4=>some ZtH
 |_=>none
noncomputable def ZoA:Am.Hints:=Am.withPrims Zog Zmp
noncomputable def Zax:Am.Hints:=Am.withPrims Zog prims
end Go.Proofs.YtbdkglokkepmfaaDoor
