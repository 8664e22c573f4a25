/-
 The place of a name in a network. (Printed by tools/genfind.py.)
-/
import Derived.Test.YtbdkglokkepmfaaDoorU7
set_option linter.constructorNameAsVariable false
set_option linter.unusedSimpArgs false
set_option linter.unusedVariables false
namespace Go.Proofs.YtbdkglokkepmfaaDoor
open Go.Am Go.Tx Ne
set_option maxRecDepth 100000
def Clean (hp:List SM):Prop:= ∀m∈hp,ZgO m=[]
theorem Clean.lt {hp:List SM} (h:Clean hp): ∀m∈hp,∀id∈ZgO m,id<hp.length:=fun m hm id hid=>by rw[h m hm]at hid;exact absurd hid List.not_mem_nil
theorem Clean.add {hp:List SM} {m:SM} (h:Clean hp) (hm:ZgO m=[]):Clean (hp++ [m]):=fun x hx=>by
 rcases List.mem_append.1 hx with hx|hx
 ·exact h x hx
 ·rw[List.mem_singleton.1 hx];exact hm
theorem Zdf {n:Ne.Net} (h:ZbV n=0):big n=false:=by
 cases hb:big n with
 |false=>rfl
 |true=>rw[Zb6 hb]at h;cases h
end Go.Proofs.YtbdkglokkepmfaaDoor
/-
 The reference's Found: what a name denotes.
-/
namespace Go.Proofs.YtbdkglokkepmfaaDoor
open Go.Am Go.Tx Ne
set_option maxRecDepth 100000
def goF (s:Txt):List Txt→Nat→List (List Txt)→Nat→Option (Nat×Nat)
 | [],_,[],_=>none
 | [],_,l::r,k=>goF s l 0 r (k+1)
 |c::t,j,r,k=>bif c==s then some (k,j)else goF s t (j+1) r k
termination_by cur _ rest _=>(rest.length,cur.length)
structure FSt where
 cur:List Txt
 left:Nat
 rest:List (List Txt)
 kind:Nat
structure FI (sizes:List Int) (N:List Txt) (s:Txt) (R:Option (Nat×Nat)) (z:FSt):Prop where
 k:z.kind+z.rest.length=4
 c:sizes[z.kind]? =some ((z.left+z.cur.length:Nat):Int)
 r: ∀j l,z.rest[j]? =some l→sizes[z.kind+1+j]? =some ((l.length:Nat):Int)
 n:z.cur++z.rest.flatten=N
 g:goF s z.cur z.left z.rest z.kind=R
 b:z.left+z.cur.length≤1000∧ ∀l∈z.rest,l.length≤1000
def hF (netc:List SV) (sizes:List Int):List SM:=[.cell netc true, .row (.i .i64) sizes true]
end Go.Proofs.YtbdkglokkepmfaaDoor
/-
 netmodel's find and the reference's Found: the same.
-/
namespace Go.Proofs.YtbdkglokkepmfaaDoor
open Go.Am Go.Tx Ne
set_option maxRecDepth 100000
end Go.Proofs.YtbdkglokkepmfaaDoor
/-
 strings.HasPrefix.
-/
namespace Go.Proofs.YtbdkglokkepmfaaDoor
open Go.Am Go.Tx Ne
set_option maxRecDepth 100000
def ZuN (s p:Txt):Bool:=bif decide ((s.length:Int)≥(p.length:Int))then s.take p.length==p else false
end Go.Proofs.YtbdkglokkepmfaaDoor
