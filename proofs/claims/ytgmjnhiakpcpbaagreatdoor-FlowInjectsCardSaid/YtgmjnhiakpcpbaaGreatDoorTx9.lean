/-
 The program logic: functions whose result is the caller's own memory.
-/
import Derived.Test.YtgmjnhiakpcpbaaGreatDoorTx8
set_option linter.constructorNameAsVariable false
set_option linter.unusedSimpArgs false
set_option linter.unusedVariables false
namespace Go.Tx
open Go.Am
section
variable {φ : Ph} {hp : List SM}
end
theorem Zaz {P:Program} {h:Hints} {T:TypeId→TI} (hT:TysOK P T) {f:FuncId} {fn:Func} {Vs:List SV} {Q:SV→Prop} (hf:P.funcs[f]? =some fn)
 (hw:wp P h T 0 ⟨f,0,fn.ntmps⟩ (Zca fn) (Zfi 0 Vs) [] (Zt9 T fn.results.toList fun V hp=>ZjD hp 40 V Q))
 (hok:h.ok f=true:=by kernel_rfl) (hp:h.prim f=none:=by exact rfl) (hb:fn.body=some (Zca fn):=by kernel_rfl) (hn:Vs.length≤fn.ntmps:=by exact Nat.le_of_ble_eq_true (by kernel_rfl)):PureOK P h f Vs Q:=
 ZhK hT hok hp hf hb hn hw
end Go.Tx
