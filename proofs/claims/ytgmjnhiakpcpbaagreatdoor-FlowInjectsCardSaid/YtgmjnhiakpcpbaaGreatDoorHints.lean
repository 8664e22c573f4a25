/-
 The hints for this seat's program; the static facts of its text.
-/
import Derived.Test.YtgmjnhiakpcpbaaGreatDoorW0
import Derived.Lib.LaidTab
import Derived.Lib.ItoaMem
import Derived.Test.YtgmjnhiakpcpbaaGreatDoorTys
import Derived.Test.YtgmjnhiakpcpbaaGreatDoorTxJ
set_option linter.constructorNameAsVariable false
set_option linter.unusedSimpArgs false
set_option linter.unusedVariables false
namespace Go.Proofs.YtgmjnhiakpcpbaaGreatDoor
theorem ZmU {P:Program} {w w':World} {name:String} {k:IntKind} {zs:List Int} {g:Nat} (hg:P.globalNamed name=some g) (hb:w'.heap[g]? =w.heap[g]?) (h:Lib.TabIs P w name k zs):Lib.TabIs P w' name k zs:=by
 unfold Lib.TabIs World.var? at*
 simp only[hg,Option.bind_some]at h⊢
 rw[hb]
 exact h
def ZdT:String:= "internal/strconv.uint64pow10"
noncomputable instance natLaid:Am.Laid where
 ok S w:= ∃g,Tryz.prog.globalNamed ZdT=some g∧S g∧Lib.TabIs Tryz.prog w ZdT .u64 Lib.pow10Tab
 mono:=by
  rintro S w S' w' h ⟨g,h1,h2,h3⟩
  exact⟨g,h1,(h g h2).1,ZmU h1 (h g h2).2 h3⟩
noncomputable def ZvC:List Nat:=
 [13,15,16,17,18,19,20,21,22,23,28,29,30,31,32,37,38,39,41,42,43,44,45,46,47,48,49,50,51,52,53,57,58,59,60,61,62,63,64,69,70,71,72,73,74,75,76,77,78,79,80,81,82,83,84,85,87,88,89,90,91,97,98,99,100,101,102,103,104,105,106,107,108,109,110,112,113,115,116,117,118,124,125,126,127,128,129,130,131,132,133,134,135,141,142,143,144,148,149,150,152,153,154,157,160,161,162,166,167,171,179,182,183,184]
noncomputable def ZuZ:List Nat:=
 [42,43,44,46,69,70,71,73,75,76,99,103,125,126,150,160]
noncomputable def Zvf:List Nat:=
 [16,18,22,29,30,32,59,60,62,63,87,88,90,91,97,98,101,102,105,106,115,116,118,124,127,129,132,134,141,142,143,144,148,153,161,162]
noncomputable def Zu2:List Nat:=
 [23,37,47,48,49,50,51,52,53,72,100,104,131,152,154,167]
noncomputable def Zsl:List (Nat×List (Nat×List Nat)):=
 [(53,[(9,[0])]),(69,[(5,[0]),(6,[0]),(8,[0]),(9,[0])]),(99,[(10,[8,9,10,11,12,13,14,15]),(17,[9])]),(148,[(5,[1])]),(150,[(11,[2,3])]),(152,[(9,[0])])]
noncomputable def Zuy:List (Nat×List (Nat×List Nat)):=
 [(99,[(10,[0,1,2,3,4,5,6,7,9,10,11,12,13,14,15,16,8,17,18,19])])]
noncomputable def hOk:List Nat:=
 [4,7,16,17,21,24,25,26,27,41,44,45,46,54,55,56,77,78,79,80,88,116,162]
noncomputable def ZvA:List Nat:=
 [24,44,46]
noncomputable def Zvy:List Nat:=
 [16,27,88,116,162]
noncomputable def ZtN:List (Nat×List (Nat×List Nat)):=
 []
noncomputable def Zf2:Am.Hints:=Am.withPerm (Am.mkHints ZvC ZuZ Zvf Zu2 [] [] Zsl []) Zuy
noncomputable def ZrR:Am.Hints:=Am.mkHints hOk ZvA Zvy [] [] [] ZtN [78]
set_option maxRecDepth 100000 in
theorem Zjx:Am.Static Tryz.prog Zf2:=Am.static_ofP Tryz.checked.mixed (by decide+kernel)
set_option maxRecDepth 100000 in
theorem Zoq:Am.Static Tryz.prog ZrR:=Am.static_of Tryz.checked.mixed (by decide+kernel)
def Zt2:List Am.PV→Option Am.PV
 | []=>some (.bool true)
 |_=>none
def prims:FuncId→Option (List Am.PV→Option Am.PV)
 |15=>some Zt2
 |_=>none
noncomputable def Zm8 (p:FuncId→Option (List Am.PV→Option Am.PV)):Am.Hints:=Am.withPrims ZrR p
noncomputable def ZaO:Am.Hints:=Zm8 prims
open Go.Am Go.Tx Dv
set_option maxRecDepth 100000
theorem Zdf {x:Int} (h0: -9223372036854775808≤x) (h1:x<9223372036854775808):IntKind.i64.wrap x=x:=by
 unfold IntKind.wrap IntKind.signed IntKind.bits
 simp only[Bool.true_and]
 split<;>rename_i h<;>simp only[decide_eq_true_eq]at h<;>omega
abbrev Zkb (l:List Int):SV:= .v (.l (.i .u32)) l
theorem ZcH {x:Int} (h0:0≤x) (h1:x<18446744073709551616):IntKind.u64.wrap x=x:=by
 unfold IntKind.wrap IntKind.signed IntKind.bits
 simp only[Bool.false_and,Bool.false_eq_true,if_false]
 omega
theorem Zmq (x:Int):IntKind.u32.wrap x=x % 4294967296:=by
 unfold IntKind.wrap IntKind.signed IntKind.bits
 simp
end Go.Proofs.YtgmjnhiakpcpbaaGreatDoor
/-
 Small lemmas for walks.
-/
namespace Go.Proofs.YtgmjnhiakpcpbaaGreatDoor
open Go.Am Go.Tx
theorem nf {b:Bool} (h:b=true) (h':b=false):False:=by rw[h]at h';cases h'
theorem Zfs {α:Type} {l:List α} {n:Nat} (h:l.length=n):sub l 0 n=l:=by
 rw[sub,List.drop_zero,List.take_of_length_le (by omega)]
abbrev nt (k:Nat):SV:= .v (.i .i64) (k:Int)
theorem cin {i n:Nat} (h:i<n):(0:Int)≤(i:Int)∧(i:Int)<((n:Nat):Int):=by omega
theorem Za5 {k:Nat} (h:k<1000000):IntKind.i64.wrap ((k:Int)+1)=((k+1:Nat):Int):=Zdf (by omega) (by omega)
end Go.Proofs.YtgmjnhiakpcpbaaGreatDoor
/-
 What is wrong with a network: plain Lean.
-/
namespace Ne
abbrev Txt:=List UInt8
abbrev Item:=Txt×(List Txt×(Bool×Bool))
abbrev Sw:=Txt×(Txt×(Txt×(Bool×Bool)))
abbrev Br:=Txt×(Txt×(Txt×(Int×(Int×(Int×(Int×(Int×Int)))))))
abbrev Ge:=Txt×(Txt×(Int×(Int×Int)))
abbrev Lo:=Txt×(Txt×Int)
abbrev Sto:=Txt×(Txt×(Int×(Int×Int)))
structure Net where
 nodes:List Txt
 sws:List Sw
 brs:List Br
 gens:List Ge
 loads:List Lo
 stores:List Sto
def Zj7 (c:UInt8):Bool:=decide (65≤c.toNat)&&decide (c.toNat≤90)
def ZlB (c:UInt8):Bool:=decide (48≤c.toNat)&&decide (c.toNat≤57)
def Za8:Txt→Bool
 | []=>false
 |c::r=>Nat.ble (r.length+1) 8&&(Zj7 c&&r.all fun c=>Zj7 c||ZlB c)
def inR (n lo hi:Int):Bool:=decide (lo≤n)&&decide (n≤hi)
def ZhU (b:Br):Bool:= !(inR b.2.2.2.1 1 10000&&inR b.2.2.2.2.1 500 1500&&inR b.2.2.2.2.2.1 (-1000) 1000&&inR b.2.2.2.2.2.2.1 0 100000&&inR b.2.2.2.2.2.2.2.1 b.2.2.2.2.2.2.1 100000&&inR b.2.2.2.2.2.2.2.2 0 200000)
def swI (s:Sw):Item:=(s.1,[s.2.1,s.2.2.1],true,false)
def brI (b:Br):Item:=(b.1,[b.2.1,b.2.2.1],true,ZhU b)
def geI (g:Ge):Item:=(g.1,[g.2.1],false, !(inR g.2.2.1 0 100000)|| !(inR g.2.2.2.1 g.2.2.1 100000)|| !(inR g.2.2.2.2 0 100000))
def loI (d:Lo):Item:=(d.1,[d.2.1],false, !(inR d.2.2 0 100000))
def stI (s:Sto):Item:=(s.1,[s.2.1],false, !(inR s.2.2.1 0 100000)|| !(inR s.2.2.2.1 0 100000)|| !(inR s.2.2.2.2 0 100000))
def noI (s:Txt):Item:=(s,[],false,false)
def Zo6 (n:Net):List Item:=n.sws.map swI++(n.brs.map brI++(n.gens.map geI++(n.loads.map loI++n.stores.map stI)))
def ZcA (s:Txt):List Txt→Bool
 | []=>false
 |k::r=>bif s==k then true else ZcA s r
def Zba (nodes met:List Txt) (it:Item):Int:=
 bif !Za8 it.1 then 5 else bif ZcA it.1 met then 7 else bif it.2.1.all fun s=>ZcA s nodes then
  (bif it.2.2.1&&(it.2.1.getD 0 []==it.2.1.getD 1 [])then 3 else bif it.2.2.2 then 4 else 0)else 6
def ZaC (nodes:List Txt):List Txt→List Item→Int
 |_,[]=>0
 |met,it::r=>match decide (Zba nodes met it=0)with
  |true=>ZaC nodes (met++ [it.1]) r
  |false=>Zba nodes met it
def big (n:Net):Bool:=decide (24<n.nodes.length)||(decide (32<n.sws.length)||(decide (24<n.brs.length)||(decide (10<n.gens.length)||(decide (12<n.loads.length)||decide (4<n.stores.length)))))
def ZdM (n:Net):Int:=bif big n then 2 else ZaC n.nodes [] (n.nodes.map noI++Zo6 n)
def ZbO (e f:Int):Int:=match decide (e=0)with
 |true=>f
 |false=>e
def ZbS (s:Txt):List Txt→Nat→Int
 | [],_=> -1
 |k::r,i=>bif s==k then(i:Int)else ZbS s r (i+1)
theorem Zj4 (s:Txt): ∀ (l:List Txt) (i:Nat),ZcA s l=decide (0≤ZbS s l i)
 | [],_=>rfl
 |k::r,i=>by
  rw[ZcA,ZbS]
  cases s==k with
  |true=>simp
  |false=>simp only[cond_false];exact Zj4 s r (i+1)
theorem ZkO (nodes:List Txt): ∀ (l r:List Item) (met:List Txt),ZaC nodes met (l++r)=ZbO (ZaC nodes met l) (ZaC nodes (met++l.map (·.1)) r)
 | [],r,met=>by simp[ZaC,ZbO]
 |it::l,r,met=>by
  rw[List.cons_append,ZaC,ZaC]
  cases h:decide (Zba nodes met it=0)with
  |true=>
   simp only[]
   rw[ZkO nodes l r,List.map_cons,List.append_assoc];rfl
  |false=>
   simp only[]
   rw[ZbO,h]
end Ne
