/-
 Small lemmas for walks.
-/
import Derived.Test.YtbdkglokkepmfaaDoorTxJ
import Derived.Test.YtbdkglokkepmfaaDoorTys
import Derived.Test.YtbdkglokkepmfaaDoorHints
set_option linter.constructorNameAsVariable false
set_option linter.unusedSimpArgs false
set_option linter.unusedVariables false
namespace Go.Proofs.YtbdkglokkepmfaaDoor
open Go.Am Go.Tx
theorem ZgA {x:Int} (h0: -9223372036854775808≤x) (h1:x<9223372036854775808):IntKind.i64.wrap x=x:=by
 unfold IntKind.wrap IntKind.signed IntKind.bits
 simp only[Bool.true_and]
 split<;>rename_i h<;>simp only[decide_eq_true_eq]at h<;>omega
theorem nf {b:Bool} (h:b=true) (h':b=false):False:=by rw[h]at h';cases h'
theorem ZcQ {α:Type} {l:List α} {n:Nat} (h:l.length=n):sub l 0 n=l:=by
 rw[sub,List.drop_zero,List.take_of_length_le (by omega)]
abbrev nt (k:Nat):SV:= .v (.i .i64) (k:Int)
theorem cin {i n:Nat} (h:i<n):(0:Int)≤(i:Int)∧(i:Int)<((n:Nat):Int):=by omega
theorem ZaW {k:Nat} (h:k<1000000):IntKind.i64.wrap ((k:Int)+1)=((k+1:Nat):Int):=ZgA (by omega) (by omega)
end Go.Proofs.YtbdkglokkepmfaaDoor
/-
 What is wrong with a network: plain Lean.
-/
namespace Ne
abbrev Txt:=List UInt8
abbrev Item:=Txt×(List Txt×(Bool×Bool))
abbrev Sw:=Txt×(Txt×(Txt×(Bool×Bool)))
abbrev Br:=Txt×(Txt×(Txt×(Int×(Int×(Int×(Int×(Int×Int)))))))
abbrev Ge:=Txt×(Txt×(Int×(Int×Int)))
abbrev Lo:=Txt×(Txt×Int)
abbrev Sto:=Txt×(Txt×(Int×(Int×Int)))
structure Net where
 nodes:List Txt
 sws:List Sw
 brs:List Br
 gens:List Ge
 loads:List Lo
 stores:List Sto
def Zjr (c:UInt8):Bool:=decide (65≤c.toNat)&&decide (c.toNat≤90)
def Zju (c:UInt8):Bool:=decide (48≤c.toNat)&&decide (c.toNat≤57)
def Za3:Txt→Bool
 | []=>false
 |c::r=>Nat.ble (r.length+1) 8&&(Zjr c&&r.all fun c=>Zjr c||Zju c)
def inR (n lo hi:Int):Bool:=decide (lo≤n)&&decide (n≤hi)
def ZfN (b:Br):Bool:= !(inR b.2.2.2.1 1 10000&&inR b.2.2.2.2.1 500 1500&&inR b.2.2.2.2.2.1 (-1000) 1000&&inR b.2.2.2.2.2.2.1 0 100000&&inR b.2.2.2.2.2.2.2.1 b.2.2.2.2.2.2.1 100000&&inR b.2.2.2.2.2.2.2.2 0 200000)
def swI (s:Sw):Item:=(s.1,[s.2.1,s.2.2.1],true,false)
def brI (b:Br):Item:=(b.1,[b.2.1,b.2.2.1],true,ZfN b)
def geI (g:Ge):Item:=(g.1,[g.2.1],false, !(inR g.2.2.1 0 100000)|| !(inR g.2.2.2.1 g.2.2.1 100000)|| !(inR g.2.2.2.2 0 100000))
def loI (d:Lo):Item:=(d.1,[d.2.1],false, !(inR d.2.2 0 100000))
def stI (s:Sto):Item:=(s.1,[s.2.1],false, !(inR s.2.2.1 0 100000)|| !(inR s.2.2.2.1 0 100000)|| !(inR s.2.2.2.2 0 100000))
def noI (s:Txt):Item:=(s,[],false,false)
def ZoE (n:Net):List Item:=n.sws.map swI++(n.brs.map brI++(n.gens.map geI++(n.loads.map loI++n.stores.map stI)))
def Zcf (s:Txt):List Txt→Bool
 | []=>false
 |k::r=>bif s==k then true else Zcf s r
def Zbd (nodes met:List Txt) (it:Item):Int:=
 bif !Za3 it.1 then 5 else bif Zcf it.1 met then 7 else bif it.2.1.all fun s=>Zcf s nodes then
  (bif it.2.2.1&&(it.2.1.getD 0 []==it.2.1.getD 1 [])then 3 else bif it.2.2.2 then 4 else 0)else 6
def ZaG (nodes:List Txt):List Txt→List Item→Int
 |_,[]=>0
 |met,it::r=>match decide (Zbd nodes met it=0)with
  |true=>ZaG nodes (met++ [it.1]) r
  |false=>Zbd nodes met it
def big (n:Net):Bool:=decide (24<n.nodes.length)||(decide (32<n.sws.length)||(decide (24<n.brs.length)||(decide (10<n.gens.length)||(decide (12<n.loads.length)||decide (4<n.stores.length)))))
def ZbV (n:Net):Int:=bif big n then 2 else ZaG n.nodes [] (n.nodes.map noI++ZoE n)
def ZbQ (e f:Int):Int:=match decide (e=0)with
 |true=>f
 |false=>e
def Zcp (s:Txt):List Txt→Nat→Int
 | [],_=> -1
 |k::r,i=>bif s==k then(i:Int)else Zcp s r (i+1)
theorem Zkz (s:Txt): ∀ (l:List Txt) (i:Nat),Zcf s l=decide (0≤Zcp s l i)
 | [],_=>rfl
 |k::r,i=>by
  rw[Zcf,Zcp]
  cases s==k with
  |true=>simp
  |false=>simp only[cond_false];exact Zkz s r (i+1)
theorem Zkx (nodes:List Txt): ∀ (l r:List Item) (met:List Txt),ZaG nodes met (l++r)=ZbQ (ZaG nodes met l) (ZaG nodes (met++l.map (·.1)) r)
 | [],r,met=>by simp[ZaG,ZbQ]
 |it::l,r,met=>by
  rw[List.cons_append,ZaG,ZaG]
  cases h:decide (Zbd nodes met it=0)with
  |true=>
   simp only[]
   rw[Zkx nodes l r,List.map_cons,List.append_assoc];rfl
  |false=>
   simp only[]
   rw[ZbQ,h]
end Ne
