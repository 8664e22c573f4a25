import Derived.Test.YtcclbkkgpcpikaaH7
import Derived.Test.YtcclbkkgpcpikaaI5
set_option linter.unusedSimpArgs false
set_option linter.unusedVariables false
namespace Go.Proofs.Ytcclbkkgpcpikaa
open Go.Am
set_option maxRecDepth 100000
/-- The own memory that the search captures. -/
structure CapH (H : List Mem) (a b c d : Nat) (q fv : PV) (to : Nat) (f : FuncId) : Prop where
  ha : H[a]? = some (.row [[.int .i64 to]] 1 true)
  hb : ∃ m, H[b]? = some (.row [[q]] 1 m)
  hc : ∃ m, H[c]? = some (.row [[fv]] 1 m)
  hd : H[d]? = some (.row [[.func f [] [.ptr a 0 0, .ptr b 0 0, .ptr c 0 0, .ptr d 0 0]]] 1 true)
theorem get_app {H : List Mem} {i : Nat} {m : Mem} (h : H[i]? = some m) (J : List Mem) : (H ++ J)[i]? = some m := by
  rw [List.getElem?_append_left (List.getElem?_eq_some_iff.1 h).1]; exact h
theorem CapH.app {H : List Mem} {a b c d : Nat} {q fv : PV} {to : Nat} {f : FuncId} (h : CapH H a b c d q fv to f) (J : List Mem) : CapH (H ++ J) a b c d q fv to f :=
  ⟨get_app h.ha J, h.hb.imp fun m h => get_app h J, h.hc.imp fun m h => get_app h J, get_app h.hd J⟩
end Go.Proofs.Ytcclbkkgpcpikaa
