/-
 The hints for this seat's program; the static facts of its text.
-/
import Derived.Lib.LaidTab
import Derived.Lib.Space
import Derived.Lib.Fields
import Derived.Lib.IndexMore
import Derived.Test.YtgngdcpglnfkeaaDoorTxG
import Derived.Test.YtgngdcpglnfkeaaDoorTys
set_option linter.constructorNameAsVariable false
set_option linter.unusedSimpArgs false
set_option linter.unusedVariables false
namespace Go.Proofs.YtgngdcpglnfkeaaDoor
theorem ZqR {P:Program} {w w':World} {name:String} {k:IntKind} {zs:List Int} {g:Nat} (hg:P.globalNamed name=some g) (hb:w'.heap[g]? =w.heap[g]?) (h:Lib.TabIs P w name k zs):Lib.TabIs P w' name k zs:=by
 unfold Lib.TabIs World.var? at*
 simp only[hg,Option.bind_some]at h⊢
 rw[hb]
 exact h
theorem Zqr {w w':World} {g:Nat} {v:Value} (hb:w'.heap[g]? =w.heap[g]?) (h:w.cell? ⟨g,0,none⟩=some v):w'.cell? ⟨g,0,none⟩=some v:=by
 rw[Am.cell_of_blk hb]
 exact h
abbrev Zha:String:= "strings.asciiSpace"
abbrev Zsr:String:= "internal/bytealg.MaxLen"
noncomputable instance netLaid:Am.Laid where
 ok S w:=(∃g,Tryd.prog.globalNamed Zha=some g∧S g∧Lib.TabIs Tryd.prog w Zha .u8 Lib.asciiSpaceTab)∧ ∃g m,Tryd.prog.globalNamed Zsr=some g∧S g∧w.cell? ⟨g,0,none⟩=some (.int .i64 m)
 mono:=by
  rintro S w S' w' h ⟨⟨g,h1,h2,h3⟩,g',m,h4,h5,h6⟩
  exact⟨⟨g,h1,(h g h2).1,ZqR h1 (h g h2).2 h3⟩,g',m,h4,(h g' h5).1,Zqr (h g' h5).2 h6⟩
noncomputable def hOk:List Nat:=
 [3,4,5,6,7,8,9,10,11,12,13,14,15,18,19,20,21,22,23,24,25,26,27,28,29,30,31,32,33,34,35,36,37,38,39,40,41,45,46,47,48,49,50,51,52,53,54,55,56,57,58,59,60,61,62,63,64,65,66,67,70,71,72]
noncomputable def ZwD:List Nat:=
 [13,14,19,29,30,31,32,33,34,36,50,51,52,53,55,56,57,58,59,60,61,62,63,64,70]
noncomputable def ZwB:List Nat:=
 [7,10,17,21,39]
noncomputable def ZwE:List Nat:=
 [8,20,22,45,46,47,48,49]
noncomputable def Zpj:Am.Hints:=Am.mkHints hOk ZwD ZwB ZwE [] [] [] [77]
set_option maxRecDepth 100000 in
theorem ZoQ:Am.Static Tryd.prog Zpj:=Am.static_of Tryd.checked.mixed (by decide+kernel)
def ZuL:List Am.PV→Option Am.PV
 | []=>some (.bool true)
 |_=>none
def Zvt:List Am.PV→Option Am.PV
 | [.str a, .str b]=>bif decide (a.size<4294967281)then some (.bool (Lib.contains a.data.toList b.data.toList))else none
 |_=>none
def ZpP (l:List UInt8):Bool:=l.all fun c=>decide (c.toNat<128)
def ZvA:List Am.PV→Option Am.PV
 | [.str a]=>bif decide (a.size<4294967281)&&(ZpP a.data.toList&& !(Lib.fields a.data.toList).isEmpty)then some (.lst ((Lib.fields a.data.toList).map fun l=> [.str ⟨l.toArray⟩]))else none
 |_=>none
def prims:FuncId→Option (List Am.PV→Option Am.PV)
 |16=>some Zvt
 |17=>some ZvA
 |4=>some ZuL
 |_=>none
noncomputable def Zqc:Am.Hints:=Am.withPrims Zpj (fun _=>none)
noncomputable def Zaw:Am.Hints:=Am.withPrims Zpj prims
end Go.Proofs.YtgngdcpglnfkeaaDoor
/-
 Small lemmas for walks.
-/
namespace Go.Proofs.YtgngdcpglnfkeaaDoor
open Go.Am Go.Tx
theorem Zg0 {x:Int} (h0: -9223372036854775808≤x) (h1:x<9223372036854775808):IntKind.i64.wrap x=x:=by
 unfold IntKind.wrap IntKind.signed IntKind.bits
 simp only[Bool.true_and]
 split<;>rename_i h<;>simp only[decide_eq_true_eq]at h<;>omega
theorem nf {b:Bool} (h:b=true) (h':b=false):False:=by rw[h]at h';cases h'
theorem Zbn {α:Type} {l:List α} {n:Nat} (h:l.length=n):sub l 0 n=l:=by
 rw[sub,List.drop_zero,List.take_of_length_le (by omega)]
abbrev nt (k:Nat):SV:= .v (.i .i64) (k:Int)
theorem cin {i n:Nat} (h:i<n):(0:Int)≤(i:Int)∧(i:Int)<((n:Nat):Int):=by omega
theorem Za7 {k:Nat} (h:k<1000000):IntKind.i64.wrap ((k:Int)+1)=((k+1:Nat):Int):=Zg0 (by omega) (by omega)
end Go.Proofs.YtgngdcpglnfkeaaDoor
/-
 What is wrong with a network: plain Lean.
-/
namespace Ne
abbrev Txt:=List UInt8
abbrev Item:=Txt×(List Txt×(Bool×Bool))
abbrev Sw:=Txt×(Txt×(Txt×(Bool×Bool)))
abbrev Br:=Txt×(Txt×(Txt×(Int×(Int×(Int×(Int×(Int×Int)))))))
abbrev Ge:=Txt×(Txt×(Int×(Int×Int)))
abbrev Lo:=Txt×(Txt×Int)
abbrev Sto:=Txt×(Txt×(Int×(Int×Int)))
structure Net where
 nodes:List Txt
 sws:List Sw
 brs:List Br
 gens:List Ge
 loads:List Lo
 stores:List Sto
def Zjp (c:UInt8):Bool:=decide (65≤c.toNat)&&decide (c.toNat≤90)
def Zju (c:UInt8):Bool:=decide (48≤c.toNat)&&decide (c.toNat≤57)
def Za5:Txt→Bool
 | []=>false
 |c::r=>Nat.ble (r.length+1) 8&&(Zjp c&&r.all fun c=>Zjp c||Zju c)
def inR (n lo hi:Int):Bool:=decide (lo≤n)&&decide (n≤hi)
def Zgk (b:Br):Bool:= !(inR b.2.2.2.1 1 10000&&inR b.2.2.2.2.1 500 1500&&inR b.2.2.2.2.2.1 (-1000) 1000&&inR b.2.2.2.2.2.2.1 0 100000&&inR b.2.2.2.2.2.2.2.1 b.2.2.2.2.2.2.1 100000&&inR b.2.2.2.2.2.2.2.2 0 200000)
def swI (s:Sw):Item:=(s.1,[s.2.1,s.2.2.1],true,false)
def brI (b:Br):Item:=(b.1,[b.2.1,b.2.2.1],true,Zgk b)
def geI (g:Ge):Item:=(g.1,[g.2.1],false, !(inR g.2.2.1 0 100000)|| !(inR g.2.2.2.1 g.2.2.1 100000)|| !(inR g.2.2.2.2 0 100000))
def loI (d:Lo):Item:=(d.1,[d.2.1],false, !(inR d.2.2 0 100000))
def stI (s:Sto):Item:=(s.1,[s.2.1],false, !(inR s.2.2.1 0 100000)|| !(inR s.2.2.2.1 0 100000)|| !(inR s.2.2.2.2 0 100000))
def noI (s:Txt):Item:=(s,[],false,false)
def ZjJ (n:Net):List Item:=n.sws.map swI++(n.brs.map brI++(n.gens.map geI++(n.loads.map loI++n.stores.map stI)))
def ZcN (s:Txt):List Txt→Bool
 | []=>false
 |k::r=>bif s==k then true else ZcN s r
def Zbf (nodes met:List Txt) (it:Item):Int:=
 bif !Za5 it.1 then 5 else bif ZcN it.1 met then 7 else bif it.2.1.all fun s=>ZcN s nodes then
  (bif it.2.2.1&&(it.2.1.getD 0 []==it.2.1.getD 1 [])then 3 else bif it.2.2.2 then 4 else 0)else 6
def ZaG (nodes:List Txt):List Txt→List Item→Int
 |_,[]=>0
 |met,it::r=>match decide (Zbf nodes met it=0)with
  |true=>ZaG nodes (met++ [it.1]) r
  |false=>Zbf nodes met it
def big (n:Net):Bool:=decide (24<n.nodes.length)||(decide (32<n.sws.length)||(decide (24<n.brs.length)||(decide (10<n.gens.length)||(decide (12<n.loads.length)||decide (4<n.stores.length)))))
def ZcK (n:Net):Int:=bif big n then 2 else ZaG n.nodes [] (n.nodes.map noI++ZjJ n)
def Zb6 (e f:Int):Int:=match decide (e=0)with
 |true=>f
 |false=>e
def Zah (s:Txt):List Txt→Nat→Int
 | [],_=> -1
 |k::r,i=>bif s==k then(i:Int)else Zah s r (i+1)
theorem Zlm (s:Txt): ∀ (l:List Txt) (i:Nat),ZcN s l=decide (0≤Zah s l i)
 | [],_=>rfl
 |k::r,i=>by
  rw[ZcN,Zah]
  cases s==k with
  |true=>simp
  |false=>simp only[cond_false];exact Zlm s r (i+1)
theorem ZkB (nodes:List Txt): ∀ (l r:List Item) (met:List Txt),ZaG nodes met (l++r)=Zb6 (ZaG nodes met l) (ZaG nodes (met++l.map (·.1)) r)
 | [],r,met=>by simp[ZaG,Zb6]
 |it::l,r,met=>by
  rw[List.cons_append,ZaG,ZaG]
  cases h:decide (Zbf nodes met it=0)with
  |true=>
   simp only[]
   rw[ZkB nodes l r,List.map_cons,List.append_assoc];rfl
  |false=>
   simp only[]
   rw[Zb6,h]
end Ne
