/-
 netmodel.Without and Set. (Printed by tools/genwith.py.)
-/
import Derived.Test.YtgngdcpglnfkeaaDoorUR
import Derived.Test.YtgngdcpglnfkeaaDoorUP
set_option linter.constructorNameAsVariable false
set_option linter.unusedSimpArgs false
set_option linter.unusedVariables false
namespace Go.Proofs.YtgngdcpglnfkeaaDoor
open Go.Am Go.Tx Ne
set_option maxRecDepth 100000
theorem Zqt:AsV (.agg Zmi) (.agg (Za2 Zfq)):=fun φ q h=>by
 simp only[Zmi,RV,RL]at h
 obtain⟨_,rfl,_,_,rfl,rfl,_,_,rfl,rfl,_,_,rfl,rfl,_,_,rfl,rfl,_,_,rfl,rfl,_,_,rfl,rfl,rfl⟩:=h
 simp only[Za2,Zfq,RV,RL]
 have n: ∀e:CT,RR (.l e) ([]:List e.D) [PV.nils]:=fun e=> .inl ⟨rfl,rfl⟩
 exact⟨_,rfl,_,_,rfl,n _,_,_,rfl,n _,_,_,rfl,n _,_,_,rfl,n _,_,_,rfl,n _,_,_,rfl,n _,rfl⟩
set_option maxHeartbeats 8000000 in
theorem Zpp (n:Ne.Net) (s:Txt) (hz:Zbi n) (e:Int) (he:(Zb2 n s).2.2=e) (h:(!decide (e=0))=true):
 PureOK Tryd.prog Zaw 7 [.agg (Za2 n), .v .s s] (fun V=>V= .tup [.agg (Za2 Zfq), .v (.i .i64) e]):=by
 refine PureOK.as (Q:=fun V=>V= .tup [.agg Zmi, .v (.i .i64) e]) ?_ (fun V hV=>⟨_,hV▸AsV.tup2 Zqt (AsV.refl _),rfl⟩)
 refine Zau Zao Tryd.func7 ?_
 have hF:=Zdg n s hz
 rw[he]at hF
 refine Zae ?_
 refine ZaR ?_
 refine ZaR ?_
 refine Zab ?_
 refine Zaf ?_
 refine Zae ?_
 refine Zag rfl (fun _=>rfl) rfl rfl rfl ?_
 refine Zab ?_
 refine Zac rfl ((hF).mono ?_)
 rintro _ rfl
 refine Zaa rfl rfl ?_
 iterate 7 refine Zab ?_
 refine Zaf ?_
 refine Zae ?_
 iterate 3 refine Zab ?_
 refine Zaf ?_
 refine And.intro (fun _=> ?_) (fun h'=>by first|(cases h';done)|exact(nf h h').elim)
 refine Zae ?_
 iterate 2 refine Zab ?_
 refine Zac rfl (And.intro rfl ?_)
 refine Zar rfl ?_
 refine Zab ?_
 refine Zaf ?_
 exact⟨rfl,rfl⟩
set_option maxHeartbeats 8000000 in
theorem ZsY (n:Ne.Net) (s:Txt) (hz:Zbi n) (h0:(Zb2 n s).2.2=0) (h1:((Zb2 n s).1==kNo)=true):
 PureOK Tryd.prog Zaw 7 [.agg (Za2 n), .v .s s] (fun V=>V= .tup [.agg (Za2 Zfq), .v (.i .i64) 1]):=by
 refine PureOK.as (Q:=fun V=>V= .tup [.agg Zmi, .v (.i .i64) 1]) ?_ (fun V hV=>⟨_,hV▸AsV.tup2 Zqt (AsV.refl _),rfl⟩)
 refine Zau Zao Tryd.func7 ?_
 have hF:=Zdg n s hz
 rw[h0]at hF
 refine Zae ?_
 refine ZaR ?_
 refine ZaR ?_
 refine Zab ?_
 refine Zaf ?_
 refine Zae ?_
 refine Zag rfl (fun _=>rfl) rfl rfl rfl ?_
 refine Zab ?_
 refine Zac rfl ((hF).mono ?_)
 rintro _ rfl
 refine Zaa rfl rfl ?_
 iterate 7 refine Zab ?_
 refine Zaf ?_
 refine Zae ?_
 iterate 3 refine Zab ?_
 refine Zaf ?_
 refine brF rfl ?_
 refine Zae ?_
 iterate 3 refine Zab ?_
 refine Zaf ?_
 refine And.intro (fun _=> ?_) (fun h'=>by first|(cases h';done)|exact(nf h1 h').elim)
 refine Zae ?_
 refine Zab ?_
 refine Zac rfl (And.intro rfl ?_)
 refine Zar rfl ?_
 refine Zab ?_
 refine Zaf ?_
 exact⟨rfl,rfl⟩
set_option maxHeartbeats 16000000 in
theorem Ztd (n:Ne.Net) (s:Txt) (hz:Zbi n) (j:Nat) (hF0:Zb2 n s=(kSw,(j:Int),0)) (hb:big n=false) (hj:j<n.sws.length):
 PureOK Tryd.prog Zaw 7 [.agg (Za2 n), .v .s s] (fun V=>V= .tup [.agg (Za2 (Zol n kSw j)), .v (.i .i64) 0]):=by
 refine Zau Zao Tryd.func7 ?_
 have hF:=Zdg n s hz
 rw[hF0]at hF
 have hC:=Zjf n hb
 simp only[big,Bool.or_eq_false_iff,decide_eq_false_iff_not]at hb
 have hlen:n.sws.length≤1000:=by omega
 have hD:=Zu6 (([.cell (Za2 n) true, .cell Zmi true]++ZkU n)++ [.cell (Zkk 2 n) true]) 3 n.sws j hj hlen rfl
 rw[show nt (j+1)=SV.v (.i .i64) (IntKind.i64.wrap ((j:Int)+1))from congrArg (fun z=>SV.v (.i .i64) z) (Za7 (by omega)).symm]at hD
 refine Zae ?_
 refine ZaR ?_
 refine ZaR ?_
 refine Zab ?_
 refine Zaf ?_
 refine Zae ?_
 refine Zag rfl (fun _=>rfl) rfl rfl rfl ?_
 refine Zab ?_
 refine Zac rfl ((hF).mono ?_)
 rintro _ rfl
 refine Zaa rfl rfl ?_
 iterate 7 refine Zab ?_
 refine Zaf ?_
 refine Zae ?_
 iterate 3 refine Zab ?_
 refine Zaf ?_
 refine brF rfl ?_
 refine Zae ?_
 iterate 3 refine Zab ?_
 refine Zaf ?_
 refine brF rfl ?_
 refine ZaJ ?_
 refine Zae ?_
 refine Zag rfl (fun _=>rfl) rfl rfl rfl ?_
 refine Zac rfl ((hC.mono ?_))
 rintro _ _ _ ⟨rfl,rfl,rfl⟩
 refine Zaa rfl rfl ?_
 refine ZaR ?_
 refine Zac rfl (And.intro rfl ?_)
 refine Zae ?_
 refine Zab ?_
 refine Zaf ?_
 refine Zae ?_
 iterate 2 refine Zab ?_
 refine Zaf ?_
 refine brT rfl ?_
 refine Zae ?_
 refine Zab ?_
 refine Zag rfl (fun _=>rfl) rfl rfl rfl ?_
 iterate 3 refine Zab ?_
 refine Zac rfl ((hD.mono ?_))
 rintro _ hp' ⟨rfl,l',rfl,hl',hs'⟩
 refine Zaa rfl rfl ?_
 refine Zab ?_
 refine Zac rfl (And.intro rfl ?_)
 refine Zae ?_
 refine Zag rfl (fun _=>rfl) rfl rfl rfl ?_
 refine Zac rfl (And.intro rfl ?_)
 refine Zar rfl ?_
 refine Zab ?_
 refine Zaf ?_
 have z: ∀k:Nat,0+k≤k:=fun k=>by omega
 have z2:0+(j+(n.sws.length-(j+1)))≤l'.length:=by omega
 refine⟨rfl,z _,z2,z _,z _,z _,z _, ?_⟩
 show SV.tup [.agg [.v (.l .s) (sub n.nodes 0 n.nodes.length), .v (.l Ze6) (sub l' 0 (j+(n.sws.length-(j+1)))), .v (.l Zfu) (sub n.brs 0 n.brs.length), .v (.l Zje) (sub n.gens 0 n.gens.length), .v (.l ZqO) (sub n.loads 0 n.loads.length), .v (.l Zje) (sub n.stores 0 n.stores.length)], .v (.i .i64) 0]=_
 simp only[Zbn rfl]
 rw[hs']
 rfl
set_option maxHeartbeats 16000000 in
theorem Zt9 (n:Ne.Net) (s:Txt) (hz:Zbi n) (j:Nat) (hF0:Zb2 n s=(kBr,(j:Int),0)) (hb:big n=false) (hj:j<n.brs.length):
 PureOK Tryd.prog Zaw 7 [.agg (Za2 n), .v .s s] (fun V=>V= .tup [.agg (Za2 (Zol n kBr j)), .v (.i .i64) 0]):=by
 refine Zau Zao Tryd.func7 ?_
 have hF:=Zdg n s hz
 rw[hF0]at hF
 have hC:=Zjf n hb
 simp only[big,Bool.or_eq_false_iff,decide_eq_false_iff_not]at hb
 have hlen:n.brs.length≤1000:=by omega
 have hD:=Zvj (([.cell (Za2 n) true, .cell Zmi true]++ZkU n)++ [.cell (Zkk 2 n) true]) 4 n.brs j hj hlen rfl
 rw[show nt (j+1)=SV.v (.i .i64) (IntKind.i64.wrap ((j:Int)+1))from congrArg (fun z=>SV.v (.i .i64) z) (Za7 (by omega)).symm]at hD
 refine Zae ?_
 refine ZaR ?_
 refine ZaR ?_
 refine Zab ?_
 refine Zaf ?_
 refine Zae ?_
 refine Zag rfl (fun _=>rfl) rfl rfl rfl ?_
 refine Zab ?_
 refine Zac rfl ((hF).mono ?_)
 rintro _ rfl
 refine Zaa rfl rfl ?_
 iterate 7 refine Zab ?_
 refine Zaf ?_
 refine Zae ?_
 iterate 3 refine Zab ?_
 refine Zaf ?_
 refine brF rfl ?_
 refine Zae ?_
 iterate 3 refine Zab ?_
 refine Zaf ?_
 refine brF rfl ?_
 refine ZaJ ?_
 refine Zae ?_
 refine Zag rfl (fun _=>rfl) rfl rfl rfl ?_
 refine Zac rfl ((hC.mono ?_))
 rintro _ _ _ ⟨rfl,rfl,rfl⟩
 refine Zaa rfl rfl ?_
 refine ZaR ?_
 refine Zac rfl (And.intro rfl ?_)
 refine Zae ?_
 refine Zab ?_
 refine Zaf ?_
 refine Zae ?_
 iterate 2 refine Zab ?_
 refine Zaf ?_
 refine brF rfl ?_
 refine Zae ?_
 iterate 2 refine Zab ?_
 refine Zaf ?_
 refine brT rfl ?_
 refine Zae ?_
 refine Zab ?_
 refine Zag rfl (fun _=>rfl) rfl rfl rfl ?_
 iterate 3 refine Zab ?_
 refine Zac rfl ((hD.mono ?_))
 rintro _ hp' ⟨rfl,l',rfl,hl',hs'⟩
 refine Zaa rfl rfl ?_
 refine Zab ?_
 refine Zac rfl (And.intro rfl ?_)
 refine Zae ?_
 refine Zag rfl (fun _=>rfl) rfl rfl rfl ?_
 refine Zac rfl (And.intro rfl ?_)
 refine Zar rfl ?_
 refine Zab ?_
 refine Zaf ?_
 have z: ∀k:Nat,0+k≤k:=fun k=>by omega
 have z2:0+(j+(n.brs.length-(j+1)))≤l'.length:=by omega
 refine⟨rfl,z _,z _,z2,z _,z _,z _, ?_⟩
 show SV.tup [.agg [.v (.l .s) (sub n.nodes 0 n.nodes.length), .v (.l Ze6) (sub n.sws 0 n.sws.length), .v (.l Zfu) (sub l' 0 (j+(n.brs.length-(j+1)))), .v (.l Zje) (sub n.gens 0 n.gens.length), .v (.l ZqO) (sub n.loads 0 n.loads.length), .v (.l Zje) (sub n.stores 0 n.stores.length)], .v (.i .i64) 0]=_
 simp only[Zbn rfl]
 rw[hs']
 rfl
set_option maxHeartbeats 16000000 in
theorem Ztr (n:Ne.Net) (s:Txt) (hz:Zbi n) (j:Nat) (hF0:Zb2 n s=(kGe,(j:Int),0)) (hb:big n=false) (hj:j<n.gens.length):
 PureOK Tryd.prog Zaw 7 [.agg (Za2 n), .v .s s] (fun V=>V= .tup [.agg (Za2 (Zol n kGe j)), .v (.i .i64) 0]):=by
 refine Zau Zao Tryd.func7 ?_
 have hF:=Zdg n s hz
 rw[hF0]at hF
 have hC:=Zjf n hb
 simp only[big,Bool.or_eq_false_iff,decide_eq_false_iff_not]at hb
 have hlen:n.gens.length≤1000:=by omega
 have hD:=ZuY (([.cell (Za2 n) true, .cell Zmi true]++ZkU n)++ [.cell (Zkk 2 n) true]) 5 n.gens j hj hlen rfl
 rw[show nt (j+1)=SV.v (.i .i64) (IntKind.i64.wrap ((j:Int)+1))from congrArg (fun z=>SV.v (.i .i64) z) (Za7 (by omega)).symm]at hD
 refine Zae ?_
 refine ZaR ?_
 refine ZaR ?_
 refine Zab ?_
 refine Zaf ?_
 refine Zae ?_
 refine Zag rfl (fun _=>rfl) rfl rfl rfl ?_
 refine Zab ?_
 refine Zac rfl ((hF).mono ?_)
 rintro _ rfl
 refine Zaa rfl rfl ?_
 iterate 7 refine Zab ?_
 refine Zaf ?_
 refine Zae ?_
 iterate 3 refine Zab ?_
 refine Zaf ?_
 refine brF rfl ?_
 refine Zae ?_
 iterate 3 refine Zab ?_
 refine Zaf ?_
 refine brF rfl ?_
 refine ZaJ ?_
 refine Zae ?_
 refine Zag rfl (fun _=>rfl) rfl rfl rfl ?_
 refine Zac rfl ((hC.mono ?_))
 rintro _ _ _ ⟨rfl,rfl,rfl⟩
 refine Zaa rfl rfl ?_
 refine ZaR ?_
 refine Zac rfl (And.intro rfl ?_)
 refine Zae ?_
 refine Zab ?_
 refine Zaf ?_
 refine Zae ?_
 iterate 2 refine Zab ?_
 refine Zaf ?_
 refine brF rfl ?_
 refine Zae ?_
 iterate 2 refine Zab ?_
 refine Zaf ?_
 refine brF rfl ?_
 refine Zae ?_
 iterate 2 refine Zab ?_
 refine Zaf ?_
 refine brT rfl ?_
 refine Zae ?_
 refine Zab ?_
 refine Zag rfl (fun _=>rfl) rfl rfl rfl ?_
 iterate 3 refine Zab ?_
 refine Zac rfl ((hD.mono ?_))
 rintro _ hp' ⟨rfl,l',rfl,hl',hs'⟩
 refine Zaa rfl rfl ?_
 refine Zab ?_
 refine Zac rfl (And.intro rfl ?_)
 refine Zae ?_
 refine Zag rfl (fun _=>rfl) rfl rfl rfl ?_
 refine Zac rfl (And.intro rfl ?_)
 refine Zar rfl ?_
 refine Zab ?_
 refine Zaf ?_
 have z: ∀k:Nat,0+k≤k:=fun k=>by omega
 have z2:0+(j+(n.gens.length-(j+1)))≤l'.length:=by omega
 refine⟨rfl,z _,z _,z _,z2,z _,z _, ?_⟩
 show SV.tup [.agg [.v (.l .s) (sub n.nodes 0 n.nodes.length), .v (.l Ze6) (sub n.sws 0 n.sws.length), .v (.l Zfu) (sub n.brs 0 n.brs.length), .v (.l Zje) (sub l' 0 (j+(n.gens.length-(j+1)))), .v (.l ZqO) (sub n.loads 0 n.loads.length), .v (.l Zje) (sub n.stores 0 n.stores.length)], .v (.i .i64) 0]=_
 simp only[Zbn rfl]
 rw[hs']
 rfl
set_option maxHeartbeats 16000000 in
theorem Zto (n:Ne.Net) (s:Txt) (hz:Zbi n) (j:Nat) (hF0:Zb2 n s=(kLo,(j:Int),0)) (hb:big n=false) (hj:j<n.loads.length):
 PureOK Tryd.prog Zaw 7 [.agg (Za2 n), .v .s s] (fun V=>V= .tup [.agg (Za2 (Zol n kLo j)), .v (.i .i64) 0]):=by
 refine Zau Zao Tryd.func7 ?_
 have hF:=Zdg n s hz
 rw[hF0]at hF
 have hC:=Zjf n hb
 simp only[big,Bool.or_eq_false_iff,decide_eq_false_iff_not]at hb
 have hlen:n.loads.length≤1000:=by omega
 have hD:=Zuv (([.cell (Za2 n) true, .cell Zmi true]++ZkU n)++ [.cell (Zkk 2 n) true]) 6 n.loads j hj hlen rfl
 rw[show nt (j+1)=SV.v (.i .i64) (IntKind.i64.wrap ((j:Int)+1))from congrArg (fun z=>SV.v (.i .i64) z) (Za7 (by omega)).symm]at hD
 refine Zae ?_
 refine ZaR ?_
 refine ZaR ?_
 refine Zab ?_
 refine Zaf ?_
 refine Zae ?_
 refine Zag rfl (fun _=>rfl) rfl rfl rfl ?_
 refine Zab ?_
 refine Zac rfl ((hF).mono ?_)
 rintro _ rfl
 refine Zaa rfl rfl ?_
 iterate 7 refine Zab ?_
 refine Zaf ?_
 refine Zae ?_
 iterate 3 refine Zab ?_
 refine Zaf ?_
 refine brF rfl ?_
 refine Zae ?_
 iterate 3 refine Zab ?_
 refine Zaf ?_
 refine brF rfl ?_
 refine ZaJ ?_
 refine Zae ?_
 refine Zag rfl (fun _=>rfl) rfl rfl rfl ?_
 refine Zac rfl ((hC.mono ?_))
 rintro _ _ _ ⟨rfl,rfl,rfl⟩
 refine Zaa rfl rfl ?_
 refine ZaR ?_
 refine Zac rfl (And.intro rfl ?_)
 refine Zae ?_
 refine Zab ?_
 refine Zaf ?_
 refine Zae ?_
 iterate 2 refine Zab ?_
 refine Zaf ?_
 refine brF rfl ?_
 refine Zae ?_
 iterate 2 refine Zab ?_
 refine Zaf ?_
 refine brF rfl ?_
 refine Zae ?_
 iterate 2 refine Zab ?_
 refine Zaf ?_
 refine brF rfl ?_
 refine Zae ?_
 iterate 2 refine Zab ?_
 refine Zaf ?_
 refine brT rfl ?_
 refine Zae ?_
 refine Zab ?_
 refine Zag rfl (fun _=>rfl) rfl rfl rfl ?_
 iterate 3 refine Zab ?_
 refine Zac rfl ((hD.mono ?_))
 rintro _ hp' ⟨rfl,l',rfl,hl',hs'⟩
 refine Zaa rfl rfl ?_
 refine Zab ?_
 refine Zac rfl (And.intro rfl ?_)
 refine Zae ?_
 refine Zag rfl (fun _=>rfl) rfl rfl rfl ?_
 refine Zac rfl (And.intro rfl ?_)
 refine Zar rfl ?_
 refine Zab ?_
 refine Zaf ?_
 have z: ∀k:Nat,0+k≤k:=fun k=>by omega
 have z2:0+(j+(n.loads.length-(j+1)))≤l'.length:=by omega
 refine⟨rfl,z _,z _,z _,z _,z2,z _, ?_⟩
 show SV.tup [.agg [.v (.l .s) (sub n.nodes 0 n.nodes.length), .v (.l Ze6) (sub n.sws 0 n.sws.length), .v (.l Zfu) (sub n.brs 0 n.brs.length), .v (.l Zje) (sub n.gens 0 n.gens.length), .v (.l ZqO) (sub l' 0 (j+(n.loads.length-(j+1)))), .v (.l Zje) (sub n.stores 0 n.stores.length)], .v (.i .i64) 0]=_
 simp only[Zbn rfl]
 rw[hs']
 rfl
set_option maxHeartbeats 16000000 in
theorem Ztv (n:Ne.Net) (s:Txt) (hz:Zbi n) (j:Nat) (hF0:Zb2 n s=(kSt,(j:Int),0)) (hb:big n=false) (hj:j<n.stores.length):
 PureOK Tryd.prog Zaw 7 [.agg (Za2 n), .v .s s] (fun V=>V= .tup [.agg (Za2 (Zol n kSt j)), .v (.i .i64) 0]):=by
 refine Zau Zao Tryd.func7 ?_
 have hF:=Zdg n s hz
 rw[hF0]at hF
 have hC:=Zjf n hb
 simp only[big,Bool.or_eq_false_iff,decide_eq_false_iff_not]at hb
 have hlen:n.stores.length≤1000:=by omega
 have hD:=ZuS (([.cell (Za2 n) true, .cell Zmi true]++ZkU n)++ [.cell (Zkk 2 n) true]) 7 n.stores j hj hlen rfl
 rw[show nt (j+1)=SV.v (.i .i64) (IntKind.i64.wrap ((j:Int)+1))from congrArg (fun z=>SV.v (.i .i64) z) (Za7 (by omega)).symm]at hD
 refine Zae ?_
 refine ZaR ?_
 refine ZaR ?_
 refine Zab ?_
 refine Zaf ?_
 refine Zae ?_
 refine Zag rfl (fun _=>rfl) rfl rfl rfl ?_
 refine Zab ?_
 refine Zac rfl ((hF).mono ?_)
 rintro _ rfl
 refine Zaa rfl rfl ?_
 iterate 7 refine Zab ?_
 refine Zaf ?_
 refine Zae ?_
 iterate 3 refine Zab ?_
 refine Zaf ?_
 refine brF rfl ?_
 refine Zae ?_
 iterate 3 refine Zab ?_
 refine Zaf ?_
 refine brF rfl ?_
 refine ZaJ ?_
 refine Zae ?_
 refine Zag rfl (fun _=>rfl) rfl rfl rfl ?_
 refine Zac rfl ((hC.mono ?_))
 rintro _ _ _ ⟨rfl,rfl,rfl⟩
 refine Zaa rfl rfl ?_
 refine ZaR ?_
 refine Zac rfl (And.intro rfl ?_)
 refine Zae ?_
 refine Zab ?_
 refine Zaf ?_
 refine Zae ?_
 iterate 2 refine Zab ?_
 refine Zaf ?_
 refine brF rfl ?_
 refine Zae ?_
 iterate 2 refine Zab ?_
 refine Zaf ?_
 refine brF rfl ?_
 refine Zae ?_
 iterate 2 refine Zab ?_
 refine Zaf ?_
 refine brF rfl ?_
 refine Zae ?_
 iterate 2 refine Zab ?_
 refine Zaf ?_
 refine brF rfl ?_
 refine Zae ?_
 refine Zab ?_
 refine Zag rfl (fun _=>rfl) rfl rfl rfl ?_
 iterate 3 refine Zab ?_
 refine Zac rfl ((hD.mono ?_))
 rintro _ hp' ⟨rfl,l',rfl,hl',hs'⟩
 refine Zaa rfl rfl ?_
 refine Zab ?_
 refine Zac rfl (And.intro rfl ?_)
 refine Zae ?_
 refine Zag rfl (fun _=>rfl) rfl rfl rfl ?_
 refine Zac rfl (And.intro rfl ?_)
 refine Zar rfl ?_
 refine Zab ?_
 refine Zaf ?_
 have z: ∀k:Nat,0+k≤k:=fun k=>by omega
 have z2:0+(j+(n.stores.length-(j+1)))≤l'.length:=by omega
 refine⟨rfl,z _,z _,z _,z _,z _,z2, ?_⟩
 show SV.tup [.agg [.v (.l .s) (sub n.nodes 0 n.nodes.length), .v (.l Ze6) (sub n.sws 0 n.sws.length), .v (.l Zfu) (sub n.brs 0 n.brs.length), .v (.l Zje) (sub n.gens 0 n.gens.length), .v (.l ZqO) (sub n.loads 0 n.loads.length), .v (.l Zje) (sub l' 0 (j+(n.stores.length-(j+1))))], .v (.i .i64) 0]=_
 simp only[Zbn rfl]
 rw[hs']
 rfl
def ZkI (n:Ne.Net) (j:Nat) (x:Sw) (b:Bool):Ne.Net:={n with sws:=n.sws.set j (x.1,x.2.1,x.2.2.1,x.2.2.2.1,b)}
set_option maxHeartbeats 8000000 in
theorem Zsv (n:Ne.Net) (s:Txt) (b:Bool) (hz:Zbi n) (e:Int) (he:(Zb2 n s).2.2=e) (h:(!decide (e=0))=true):
 ImpOK Tryd.prog Zaw 8 [.agg (Za2 n), .v .s s, .v .b b] (fun V hp sf=>V= .tup [.agg (Zkk 0 Zfq), .v (.i .i64) e]∧hp=ZkU Zfq∧sf=true):=by
 refine Zcj (fn:=Tryd.f8) (code:=Za0 Tryd.f8) Zao (by kernel_rfl) Tryd.func8 (by kernel_rfl) (Nat.le_of_ble_eq_true (by kernel_rfl)) ?_
 have hF:=Zdg n s hz
 rw[he]at hF
 refine Zae ?_
 refine ZaR ?_
 refine ZaR ?_
 refine Zab ?_
 refine Zaf ?_
 refine Zae ?_
 refine Zag rfl (fun _=>rfl) rfl rfl rfl ?_
 refine Zab ?_
 refine Zac rfl ((hF).mono ?_)
 rintro _ rfl
 refine Zaa rfl rfl ?_
 iterate 7 refine Zab ?_
 refine Zaf ?_
 refine Zae ?_
 iterate 3 refine Zab ?_
 refine Zaf ?_
 refine And.intro (fun _=> ?_) (fun h'=>by first|(cases h';done)|exact(nf h h').elim)
 refine Zae ?_
 iterate 2 refine Zab ?_
 refine Zac rfl (And.intro rfl ?_)
 refine Zar rfl ?_
 refine Zab ?_
 refine Zaf ?_
 refine⟨rfl, ?_⟩
 refine⟨.tup [.agg (Zkk 0 Zfq), .v (.i .i64) e],ZkU Zfq, ?_,rfl,rfl,rfl,rfl⟩
 refine Zbm (σ:=[.nil, .nil, .nil, .nil, .nil, .nil]) rfl rfl ?_ ?_
 ·exact⟨⟨⟨rfl,rfl,rfl⟩,⟨rfl,rfl,rfl⟩,⟨rfl,rfl,rfl⟩,⟨rfl,rfl,rfl⟩,⟨rfl,rfl,rfl⟩,⟨rfl,rfl,rfl⟩,trivial⟩,rfl,trivial⟩
 ·exact⟨rfl,rfl,rfl,rfl,rfl,rfl,trivial⟩
set_option maxHeartbeats 8000000 in
theorem Zsz (n:Ne.Net) (s:Txt) (b:Bool) (hz:Zbi n) (h0:(Zb2 n s).2.2=0) (h1:(!((Zb2 n s).1==kSw))=true):
 ImpOK Tryd.prog Zaw 8 [.agg (Za2 n), .v .s s, .v .b b] (fun V hp sf=>V= .tup [.agg (Zkk 0 Zfq), .v (.i .i64) 1]∧hp=ZkU Zfq∧sf=true):=by
 refine Zcj (fn:=Tryd.f8) (code:=Za0 Tryd.f8) Zao (by kernel_rfl) Tryd.func8 (by kernel_rfl) (Nat.le_of_ble_eq_true (by kernel_rfl)) ?_
 have hF:=Zdg n s hz
 rw[h0]at hF
 refine Zae ?_
 refine ZaR ?_
 refine ZaR ?_
 refine Zab ?_
 refine Zaf ?_
 refine Zae ?_
 refine Zag rfl (fun _=>rfl) rfl rfl rfl ?_
 refine Zab ?_
 refine Zac rfl ((hF).mono ?_)
 rintro _ rfl
 refine Zaa rfl rfl ?_
 iterate 7 refine Zab ?_
 refine Zaf ?_
 refine Zae ?_
 iterate 3 refine Zab ?_
 refine Zaf ?_
 refine brF rfl ?_
 refine Zae ?_
 iterate 3 refine Zab ?_
 refine Zaf ?_
 refine And.intro (fun _=> ?_) (fun h'=>by first|(cases h';done)|exact(nf h1 h').elim)
 refine Zae ?_
 refine Zab ?_
 refine Zac rfl (And.intro rfl ?_)
 refine Zar rfl ?_
 refine Zab ?_
 refine Zaf ?_
 refine⟨rfl, ?_⟩
 refine⟨.tup [.agg (Zkk 0 Zfq), .v (.i .i64) 1],ZkU Zfq, ?_,rfl,rfl,rfl,rfl⟩
 refine Zbm (σ:=[.nil, .nil, .nil, .nil, .nil, .nil]) rfl rfl ?_ ?_
 ·exact⟨⟨⟨rfl,rfl,rfl⟩,⟨rfl,rfl,rfl⟩,⟨rfl,rfl,rfl⟩,⟨rfl,rfl,rfl⟩,⟨rfl,rfl,rfl⟩,⟨rfl,rfl,rfl⟩,trivial⟩,rfl,trivial⟩
 ·exact⟨rfl,rfl,rfl,rfl,rfl,rfl,trivial⟩
set_option maxHeartbeats 16000000 in
theorem ZuI (n:Ne.Net) (s:Txt) (b:Bool) (hz:Zbi n) (j:Nat) (hF0:Zb2 n s=(kSw,(j:Int),0)) (hb:big n=false) (x:Sw) (hx:n.sws[j]? =some x):
 ImpOK Tryd.prog Zaw 8 [.agg (Za2 n), .v .s s, .v .b b] (fun V hp sf=>V= .tup [.agg (Zkk 0 (ZkI n j x b)), .v (.i .i64) 0]∧hp=ZkU (ZkI n j x b)∧sf=true):=by
 refine Zcj (fn:=Tryd.f8) (code:=Za0 Tryd.f8) Zao (by kernel_rfl) Tryd.func8 (by kernel_rfl) (Nat.le_of_ble_eq_true (by kernel_rfl)) ?_
 have hF:=Zdg n s hz
 rw[hF0]at hF
 have hC:=Zjf n hb
 have hj:j<n.sws.length:=(List.getElem?_eq_some_iff.1 hx).1
 have ci:=cin hj
 have gx:n.sws[0+(j:Int).toNat]? =some x:=by rw[Int.toNat_natCast,Nat.zero_add];exact hx
 have el:(ZkI n j x b).sws.length=n.sws.length:=List.length_set ..
 have es:(ZkI n j x b).sws=n.sws.set (0+(j:Int).toNat) (x.1,x.2.1,x.2.2.1,x.2.2.2.1,b):=by rw[Int.toNat_natCast,Nat.zero_add];rfl
 refine Zae ?_
 refine ZaR ?_
 refine ZaR ?_
 refine Zab ?_
 refine Zaf ?_
 refine Zae ?_
 refine Zag rfl (fun _=>rfl) rfl rfl rfl ?_
 refine Zab ?_
 refine Zac rfl ((hF).mono ?_)
 rintro _ rfl
 refine Zaa rfl rfl ?_
 iterate 7 refine Zab ?_
 refine Zaf ?_
 refine Zae ?_
 iterate 3 refine Zab ?_
 refine Zaf ?_
 refine brF rfl ?_
 refine Zae ?_
 iterate 3 refine Zab ?_
 refine Zaf ?_
 refine brF rfl ?_
 refine ZaJ ?_
 refine Zae ?_
 refine Zag rfl (fun _=>rfl) rfl rfl rfl ?_
 refine Zac rfl ((hC.mono ?_))
 rintro _ _ _ ⟨rfl,rfl,rfl⟩
 refine Zaa rfl rfl ?_
 refine ZaR ?_
 refine Zac rfl (And.intro rfl ?_)
 refine Zae ?_
 refine Zab ?_
 refine Zag rfl (fun _=>rfl) rfl rfl rfl ?_
 iterate 2 refine Zab ?_
 refine Zag rfl (fun _=>rfl) ci rfl rfl ?_
 refine Zab ?_
 refine Zac rfl (⟨x,gx, ?_⟩)
 refine Zar rfl ?_
 refine Zaf ?_
 refine Zae ?_
 refine Zag rfl (fun _=>rfl) rfl rfl rfl ?_
 refine Zac rfl (And.intro rfl ?_)
 refine Zar rfl ?_
 refine Zab ?_
 refine Zaf ?_
 refine⟨rfl, ?_⟩
 refine⟨.tup [.agg (Zkk 0 (ZkI n j x b)), .v (.i .i64) 0],ZkU (ZkI n j x b), ?_,rfl,rfl,rfl,rfl⟩
 refine Zbm (σ:=[.is 2, .is 3, .is 4, .is 5, .is 6, .is 7]) rfl rfl ?_ ?_
 ·exact⟨⟨⟨rfl,rfl,rfl⟩,⟨rfl,el,el⟩,⟨rfl,rfl,rfl⟩,⟨rfl,rfl,rfl⟩,⟨rfl,rfl,rfl⟩,⟨rfl,rfl,rfl⟩,trivial⟩,rfl,trivial⟩
 ·exact⟨⟨rfl,id⟩,⟨es,id⟩,⟨rfl,id⟩,⟨rfl,id⟩,⟨rfl,id⟩,⟨rfl,id⟩,trivial⟩
end Go.Proofs.YtgngdcpglnfkeaaDoor
