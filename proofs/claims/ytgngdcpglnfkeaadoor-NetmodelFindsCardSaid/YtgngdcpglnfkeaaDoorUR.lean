/-
 netmodel.Copy, Without, Set.
-/
import Derived.Test.YtgngdcpglnfkeaaDoorUE
import Derived.Test.YtgngdcpglnfkeaaDoorUB
set_option linter.constructorNameAsVariable false
set_option linter.unusedSimpArgs false
set_option linter.unusedVariables false
namespace Go.Proofs.YtgngdcpglnfkeaaDoor
open Go.Am Go.Tx Ne
set_option maxRecDepth 100000
abbrev Zje:CT:= .p .s (.p .s (.p (.i .i64) (.p (.i .i64) (.i .i64))))
abbrev ZqO:CT:= .p .s (.p .s (.i .i64))
def Zkk (b:Nat) (n:Ne.Net):List SV:=[.ref (b+0) 0 n.nodes.length none, .ref (b+1) 0 n.sws.length none, .ref (b+2) 0 n.brs.length none, .ref (b+3) 0 n.gens.length none, .ref (b+4) 0 n.loads.length none, .ref (b+5) 0 n.stores.length none]
def ZkU (n:Ne.Net):List SM:=[.row .s n.nodes true, .row Ze6 n.sws true, .row Zfu n.brs true, .row Zje n.gens true, .row ZqO n.loads true, .row Zje n.stores true]
abbrev Zmi:List SV:=[.nils, .nils, .nils, .nils, .nils, .nils]
set_option maxHeartbeats 8000000 in
theorem Zjf (n:Ne.Net) (hb:big n=false):ImpOK Tryd.prog Zaw 22 [.agg (Za2 n)] (fun V hp sf=>V= .agg (Zkk 0 n)∧hp=ZkU n∧sf=true):=by
 refine Zcj (fn:=Tryd.f22) (code:=Za0 Tryd.f22) Zao (by kernel_rfl) Tryd.func22 (by kernel_rfl) (Nat.le_of_ble_eq_true (by kernel_rfl)) ?_
 simp only[big,Bool.or_eq_false_iff,decide_eq_false_iff_not]at hb
 obtain⟨b1,b2,b3,b4,b5,b6⟩:=hb
 have h1:=ZuF n.nodes (by omega)
 have h2:=Zwn n.sws (by omega)
 have h3:=ZvP n.brs (by omega)
 have h4:=Zwh n.gens (by omega)
 have h5:=ZvG n.loads (by omega)
 have h6:=Zv6 n.stores (by omega)
 refine Zae ?_
 refine ZaR ?_
 refine ZaR ?_
 refine Zaf ?_
 refine Zae ?_
 refine Zab ?_
 refine Zag rfl (fun _=>rfl) rfl rfl rfl ?_
 refine Zac rfl ((h1.mono ?_))
 rintro _ _ _ ⟨rfl,rfl,rfl⟩
 refine Zaa rfl rfl ?_
 refine ZcS (hp':=[.cell (Za2 n) true, .cell Zmi true, .row .s n.nodes true]) rfl ?_
 refine Zab ?_
 refine Zag rfl (fun _=>rfl) rfl rfl rfl ?_
 refine Zac rfl ((h2.mono ?_))
 rintro _ _ _ ⟨rfl,rfl,rfl⟩
 refine Zaa rfl rfl ?_
 refine ZcS (hp':=[.cell (Za2 n) true, .cell Zmi true, .row .s n.nodes true, .row Ze6 n.sws true]) rfl ?_
 refine Zab ?_
 refine Zag rfl (fun _=>rfl) rfl rfl rfl ?_
 refine Zac rfl ((h3.mono ?_))
 rintro _ _ _ ⟨rfl,rfl,rfl⟩
 refine Zaa rfl rfl ?_
 refine ZcS (hp':=[.cell (Za2 n) true, .cell Zmi true, .row .s n.nodes true, .row Ze6 n.sws true, .row Zfu n.brs true]) rfl ?_
 refine Zab ?_
 refine Zag rfl (fun _=>rfl) rfl rfl rfl ?_
 refine Zac rfl ((h4.mono ?_))
 rintro _ _ _ ⟨rfl,rfl,rfl⟩
 refine Zaa rfl rfl ?_
 refine ZcS (hp':=[.cell (Za2 n) true, .cell Zmi true, .row .s n.nodes true, .row Ze6 n.sws true, .row Zfu n.brs true, .row Zje n.gens true]) rfl ?_
 refine Zab ?_
 refine Zag rfl (fun _=>rfl) rfl rfl rfl ?_
 refine Zac rfl ((h5.mono ?_))
 rintro _ _ _ ⟨rfl,rfl,rfl⟩
 refine Zaa rfl rfl ?_
 refine ZcS (hp':=[.cell (Za2 n) true, .cell Zmi true, .row .s n.nodes true, .row Ze6 n.sws true, .row Zfu n.brs true, .row Zje n.gens true, .row ZqO n.loads true]) rfl ?_
 refine Zab ?_
 refine Zag rfl (fun _=>rfl) rfl rfl rfl ?_
 refine Zac rfl ((h6.mono ?_))
 rintro _ _ _ ⟨rfl,rfl,rfl⟩
 refine Zaa rfl rfl ?_
 refine ZcS (hp':=[.cell (Za2 n) true, .cell Zmi true, .row .s n.nodes true, .row Ze6 n.sws true, .row Zfu n.brs true, .row Zje n.gens true, .row ZqO n.loads true, .row Zje n.stores true]) rfl ?_
 refine Zab ?_
 refine Zac rfl (And.intro rfl ?_)
 refine⟨rfl, ?_⟩
 refine⟨.agg (Zkk 0 n),ZkU n, ?_,rfl,rfl,rfl,rfl⟩
 refine Zbm (σ:=[.is 2, .is 3, .is 4, .is 5, .is 6, .is 7]) rfl rfl ?_ ?_
 ·exact⟨⟨⟨rfl,rfl,rfl⟩,⟨rfl,rfl,rfl⟩,⟨rfl,rfl,rfl⟩,⟨rfl,rfl,rfl⟩,⟨rfl,rfl,rfl⟩,⟨rfl,rfl,rfl⟩,trivial⟩,trivial⟩
 ·exact⟨⟨rfl,id⟩,⟨rfl,id⟩,⟨rfl,id⟩,⟨rfl,id⟩,⟨rfl,id⟩,⟨rfl,id⟩,trivial⟩
end Go.Proofs.YtgngdcpglnfkeaaDoor
