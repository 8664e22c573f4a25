/-
 The law NetmodelFinds: its walk.
-/
import Derived.Test.YtgngdcpglnfkeaaDoorUT
import Derived.Test.YtgngdcpglnfkeaaDoorUS
import Derived.Test.YtgngdcpglnfkeaaDoorUM
import Derived.Test.YtgngdcpglnfkeaaDoorUA
set_option linter.constructorNameAsVariable false
set_option linter.unusedSimpArgs false
set_option linter.unusedVariables false
namespace Go.Proofs.YtgngdcpglnfkeaaDoor
open Go.Am Go.Tx Ne
set_option maxRecDepth 100000
theorem ZwH:Zi9 Zfq:=by
 refine⟨?_, ?_, ?_, ?_, ?_, ?_⟩<;>(intro x hx;exact absurd hx List.not_mem_nil)
theorem ZlO:PureOK Tryd.prog Zaw 9 [.agg (Za2 Zfq)] (fun V=>V= .v .b (decide (((ZaE Zfq).length:Int)=(0:Int)))):=Zut Zfq rfl ZwH
theorem z00:0+0≤0:=Nat.le_refl 0
theorem eqI (e:Int):decide (e=e)=true:=decide_eq_true rfl
theorem neI (e:Int):(!decide (e=e))=false:=by rw[eqI];rfl
theorem neS (k:Txt):(!(k==k))=false:=by rw[beq_self_eq_true];rfl
set_option maxHeartbeats 32000000 in
theorem Ztn (n:Ne.Net) (s:Txt) (b:Bool) (hz:Zbi n) (h:(!decide (ZcK n=0))=true):
 PureOK Tryd.prog Zaw 3 [.agg (Za2 n), .v .s s, .v .b b] (fun V=>V= .v .b true):=by
 refine Zau Zao Tryd.func3 ?_
 have eF:Zb2 n s=([],0,ZcK n):=by rw[Zb2,h];rfl
 have eN:Zec n s=(0,ZcK n):=by rw[Zec,h];rfl
 have hF:=Zdg n s hz
 have hN:=ZnE n s hz
 have hW:=Zpp n s hz (ZcK n) (by rw[eF]) h
 have hS:=Zsv n s b hz (ZcK n) (by rw[eF]) h
 have hE:=ZeJ n
 rw[eF]at hF
 rw[eN]at hN
 generalize ZcK n=e at hF hN hW hS hE h
 have hI:=eqI e
 have hf:=Znp
 refine Zae ?_
 refine ZaR ?_
 refine ZaR ?_
 refine Zab ?_
 refine Zaf ?_
 refine Zae ?_
 refine Zac rfl ((hf).mono ?_)
 rintro _ rfl
 refine Zaa rfl rfl ?_
 refine Zab ?_
 refine Zaf ?_
 refine brF rfl ?_
 refine ZaJ ?_
 refine Zae ?_
 refine Zag rfl (fun _=>rfl) rfl rfl rfl ?_
 refine Zag rfl (fun _=>rfl) rfl rfl rfl ?_
 refine Zac rfl ((hF).mono ?_)
 rintro _ rfl
 refine Zaa rfl rfl ?_
 iterate 7 refine Zab ?_
 refine Zaf ?_
 refine Zae ?_
 refine Zag rfl (fun _=>rfl) rfl rfl rfl ?_
 refine Zag rfl (fun _=>rfl) rfl rfl rfl ?_
 refine Zac rfl ((hN).mono ?_)
 rintro _ rfl
 refine Zaa rfl rfl ?_
 iterate 5 refine Zab ?_
 refine Zaf ?_
 refine Zae ?_
 refine Zag rfl (fun _=>rfl) rfl rfl rfl ?_
 refine Zag rfl (fun _=>rfl) rfl rfl rfl ?_
 refine Zac rfl ((hW).mono ?_)
 rintro _ rfl
 refine Zaa rfl rfl ?_
 iterate 3 refine Zab ?_
 refine ZaR ?_
 refine Zac rfl (And.intro rfl ?_)
 refine Zar rfl ?_
 refine ZcS (hp':=[.cell (Za2 n) true, .cell [.v .s s] true, .cell (Za2 Zfq) true]) rfl ?_
 refine Zab ?_
 refine Zaf ?_
 refine Zae ?_
 refine Zag rfl (fun _=>rfl) rfl rfl rfl ?_
 refine Zag rfl (fun _=>rfl) rfl rfl rfl ?_
 refine Zab ?_
 refine Zac rfl ((hS.mono ?_))
 rintro _ _ _ ⟨rfl,rfl,rfl⟩
 refine Zaa rfl rfl ?_
 iterate 3 refine Zab ?_
 refine ZaR ?_
 refine Zac rfl (And.intro rfl ?_)
 refine Zar rfl ?_
 refine ZcS (hp':=[.cell (Za2 n) true, .cell [.v .s s] true, .cell (Za2 Zfq) true]++ZkU Zfq++ [.cell (Zkk 3 Zfq) true]) rfl ?_
 refine Zab ?_
 refine Zaf ?_
 refine Zae ?_
 refine Zab ?_
 refine Zaf ?_
 refine Zae ?_
 refine Zag rfl (fun _=>rfl) rfl rfl rfl ?_
 refine Zac rfl ((hE).mono ?_)
 rintro _ rfl
 refine Zaa rfl rfl ?_
 refine Zab ?_
 refine Zaf ?_
 refine Zae ?_
 iterate 2 refine Zab ?_
 refine Zaf ?_
 refine And.intro (fun _=> ?_) (fun h'=>by first|(cases h';done)|exact(nf h h').elim)
 refine Zae ?_
 iterate 4 refine Zab ?_
 refine Zad hI ?_
 refine Zad hI ?_
 refine Zad hI ?_
 refine Zat hI ?_
 refine Zab ?_
 refine Zad hI ?_
 refine Zad hI ?_
 refine Zad hI ?_
 refine Zat hI ?_
 refine Zab ?_
 refine Zad hI ?_
 refine Zad hI ?_
 refine Zad hI ?_
 refine Zat hI ?_
 refine Zab ?_
 refine Zad hI ?_
 refine Zad hI ?_
 refine Zat hI ?_
 refine Zab ?_
 refine Zad rfl ?_
 refine Zad rfl ?_
 refine Zat rfl ?_
 refine Zab ?_
 refine Zad rfl ?_
 refine Zad rfl ?_
 refine Zat rfl ?_
 refine Zab ?_
 refine Zad rfl ?_
 refine Zak rfl rfl rfl rfl (fun _=>rfl) rfl rfl rfl ?_
 refine Zam rfl rfl rfl rfl ((ZlO).mono ?_)
 rintro _ rfl
 refine Zaa rfl rfl ?_
 refine Zat rfl ?_
 refine Zab ?_
 refine Zad rfl ?_
 refine Zak rfl rfl rfl rfl (fun _=>rfl) rfl rfl rfl ?_
 refine Zam rfl rfl rfl rfl (⟨z00,z00,z00,z00,z00,z00,(ZlO.mono ?_)⟩)
 rintro _ rfl
 refine Zaa rfl rfl ?_
 refine Zat rfl ?_
 refine Zab ?_
 refine Zaf ?_
 rfl
set_option maxHeartbeats 32000000 in
theorem Zsi (n:Ne.Net) (s:Txt) (b:Bool) (hz:Zbi n) (h:ZcK n=0) (h2:decide ((ZaF n s).2<0)=true) (h3:decide (Zah s n.nodes 0<0)=true):
 PureOK Tryd.prog Zaw 3 [.agg (Za2 n), .v .s s, .v .b b] (fun V=>V= .v .b true):=by
 refine Zau Zao Tryd.func3 ?_
 have hz0:(!decide (ZcK n=0))=false:=by rw[h];rfl
 have eF:Zb2 n s=([],0,6):=by rw[Zb2,hz0,h2];rfl
 have eN:Zec n s=(0,6):=by rw[Zec,hz0,h3];rfl
 have eO:Zd7 n s=([],0):=by rw[ZjB,h2];rfl
 have hF:=Zdg n s hz
 have hN:=ZnE n s hz
 have hW:=Zpp n s hz 6 (by rw[eF]) rfl
 have hS:=Zsv n s b hz 6 (by rw[eF]) rfl
 have hE:=ZeJ n
 have hO:=Zmd n s (Zf2 h)
 rw[eF]at hF
 rw[eN]at hN
 rw[eO]at hO
 rw[h]at hE
 have hf:=Znp
 refine Zae ?_
 refine ZaR ?_
 refine ZaR ?_
 refine Zab ?_
 refine Zaf ?_
 refine Zae ?_
 refine Zac rfl ((hf).mono ?_)
 rintro _ rfl
 refine Zaa rfl rfl ?_
 refine Zab ?_
 refine Zaf ?_
 refine brF rfl ?_
 refine ZaJ ?_
 refine Zae ?_
 refine Zag rfl (fun _=>rfl) rfl rfl rfl ?_
 refine Zag rfl (fun _=>rfl) rfl rfl rfl ?_
 refine Zac rfl ((hF).mono ?_)
 rintro _ rfl
 refine Zaa rfl rfl ?_
 iterate 7 refine Zab ?_
 refine Zaf ?_
 refine Zae ?_
 refine Zag rfl (fun _=>rfl) rfl rfl rfl ?_
 refine Zag rfl (fun _=>rfl) rfl rfl rfl ?_
 refine Zac rfl ((hN).mono ?_)
 rintro _ rfl
 refine Zaa rfl rfl ?_
 iterate 5 refine Zab ?_
 refine Zaf ?_
 refine Zae ?_
 refine Zag rfl (fun _=>rfl) rfl rfl rfl ?_
 refine Zag rfl (fun _=>rfl) rfl rfl rfl ?_
 refine Zac rfl ((hW).mono ?_)
 rintro _ rfl
 refine Zaa rfl rfl ?_
 iterate 3 refine Zab ?_
 refine ZaR ?_
 refine Zac rfl (And.intro rfl ?_)
 refine Zar rfl ?_
 refine ZcS (hp':=[.cell (Za2 n) true, .cell [.v .s s] true, .cell (Za2 Zfq) true]) rfl ?_
 refine Zab ?_
 refine Zaf ?_
 refine Zae ?_
 refine Zag rfl (fun _=>rfl) rfl rfl rfl ?_
 refine Zag rfl (fun _=>rfl) rfl rfl rfl ?_
 refine Zab ?_
 refine Zac rfl ((hS.mono ?_))
 rintro _ _ _ ⟨rfl,rfl,rfl⟩
 refine Zaa rfl rfl ?_
 iterate 3 refine Zab ?_
 refine ZaR ?_
 refine Zac rfl (And.intro rfl ?_)
 refine Zar rfl ?_
 refine ZcS (hp':=[.cell (Za2 n) true, .cell [.v .s s] true, .cell (Za2 Zfq) true]++ZkU Zfq++ [.cell (Zkk 3 Zfq) true]) rfl ?_
 refine Zab ?_
 refine Zaf ?_
 refine Zae ?_
 refine Zab ?_
 refine Zaf ?_
 refine Zae ?_
 refine Zag rfl (fun _=>rfl) rfl rfl rfl ?_
 refine Zac rfl ((hE).mono ?_)
 rintro _ rfl
 refine Zaa rfl rfl ?_
 refine Zab ?_
 refine Zaf ?_
 refine Zae ?_
 iterate 2 refine Zab ?_
 refine Zaf ?_
 refine brF rfl ?_
 refine ZaJ ?_
 refine Zae ?_
 refine Zag rfl (fun _=>rfl) rfl rfl rfl ?_
 refine Zag rfl (fun _=>rfl) rfl rfl rfl ?_
 refine Zac rfl ((hO).mono ?_)
 rintro _ rfl
 refine Zaa rfl rfl ?_
 iterate 5 refine Zab ?_
 refine Zaf ?_
 refine Zae ?_
 iterate 2 refine Zab ?_
 refine Zaf ?_
 refine brT rfl ?_
 refine Zae ?_
 iterate 3 refine Zab ?_
 refine Zad rfl ?_
 refine Zad rfl ?_
 refine Zat rfl ?_
 refine Zab ?_
 refine Zad rfl ?_
 refine Zad rfl ?_
 refine Zat rfl ?_
 refine Zab ?_
 refine Zad rfl ?_
 refine Zad rfl ?_
 refine Zat rfl ?_
 refine Zab ?_
 refine Zad rfl ?_
 refine Zad rfl ?_
 refine Zat rfl ?_
 refine Zab ?_
 refine Zad rfl ?_
 refine Zad rfl ?_
 refine Zat rfl ?_
 refine Zab ?_
 refine Zad rfl ?_
 refine Zad rfl ?_
 refine Zat rfl ?_
 refine Zab ?_
 refine Zad rfl ?_
 refine Zak rfl rfl rfl rfl (fun _=>rfl) rfl rfl rfl ?_
 refine Zam rfl rfl rfl rfl ((ZlO).mono ?_)
 rintro _ rfl
 refine Zaa rfl rfl ?_
 refine Zat rfl ?_
 refine Zab ?_
 refine Zad rfl ?_
 refine Zak rfl rfl rfl rfl (fun _=>rfl) rfl rfl rfl ?_
 refine Zam rfl rfl rfl rfl (⟨z00,z00,z00,z00,z00,z00,(ZlO.mono ?_)⟩)
 rintro _ rfl
 refine Zaa rfl rfl ?_
 refine Zat rfl ?_
 refine Zab ?_
 refine Zaf ?_
 rfl
set_option maxHeartbeats 32000000 in
theorem Zq7 (n:Ne.Net) (s:Txt) (b:Bool) (hz:Zbi n) (h:ZcK n=0) (i:Int) (hi:Zah s n.nodes 0=i) (h3:decide (i≥0)=true):
 PureOK Tryd.prog Zaw 3 [.agg (Za2 n), .v .s s, .v .b b] (fun V=>V= .v .b true):=by
 refine Zau Zao Tryd.func3 ?_
 have hz0:(!decide (ZcK n=0))=false:=by rw[h];rfl
 have eE:ZaF n s=(kNo,i):=by rw[ZaF,hi,h3];rfl
 have h4:decide (i<0)=false:=by have:=of_decide_eq_true h3;exact decide_eq_false (by omega)
 have eF:Zb2 n s=(kNo,i,0):=by rw[Zb2,hz0,eE,h4];rfl
 have eN:Zec n s=(i,0):=by rw[Zec,hz0,hi,h4];rfl
 have eO:Zd7 n s=(kNo,i):=by rw[ZjB,eE,h4];rfl
 have hF:=Zdg n s hz
 have hN:=ZnE n s hz
 have hW:=ZsY n s hz (by rw[eF]) (by rw[eF];rfl)
 have hS:=Zsz n s b hz (by rw[eF]) (by rw[eF];rfl)
 have hE:=ZeJ n
 have hO:=Zmd n s (Zf2 h)
 rw[eF]at hF
 rw[eN]at hN
 rw[eO]at hO
 rw[h]at hE
 have hf:=Znp
 have hI:=eqI i
 have hI':=neI i
 refine Zae ?_
 refine ZaR ?_
 refine ZaR ?_
 refine Zab ?_
 refine Zaf ?_
 refine Zae ?_
 refine Zac rfl ((hf).mono ?_)
 rintro _ rfl
 refine Zaa rfl rfl ?_
 refine Zab ?_
 refine Zaf ?_
 refine brF rfl ?_
 refine ZaJ ?_
 refine Zae ?_
 refine Zag rfl (fun _=>rfl) rfl rfl rfl ?_
 refine Zag rfl (fun _=>rfl) rfl rfl rfl ?_
 refine Zac rfl ((hF).mono ?_)
 rintro _ rfl
 refine Zaa rfl rfl ?_
 iterate 7 refine Zab ?_
 refine Zaf ?_
 refine Zae ?_
 refine Zag rfl (fun _=>rfl) rfl rfl rfl ?_
 refine Zag rfl (fun _=>rfl) rfl rfl rfl ?_
 refine Zac rfl ((hN).mono ?_)
 rintro _ rfl
 refine Zaa rfl rfl ?_
 iterate 5 refine Zab ?_
 refine Zaf ?_
 refine Zae ?_
 refine Zag rfl (fun _=>rfl) rfl rfl rfl ?_
 refine Zag rfl (fun _=>rfl) rfl rfl rfl ?_
 refine Zac rfl ((hW).mono ?_)
 rintro _ rfl
 refine Zaa rfl rfl ?_
 iterate 3 refine Zab ?_
 refine ZaR ?_
 refine Zac rfl (And.intro rfl ?_)
 refine Zar rfl ?_
 refine ZcS (hp':=[.cell (Za2 n) true, .cell [.v .s s] true, .cell (Za2 Zfq) true]) rfl ?_
 refine Zab ?_
 refine Zaf ?_
 refine Zae ?_
 refine Zag rfl (fun _=>rfl) rfl rfl rfl ?_
 refine Zag rfl (fun _=>rfl) rfl rfl rfl ?_
 refine Zab ?_
 refine Zac rfl ((hS.mono ?_))
 rintro _ _ _ ⟨rfl,rfl,rfl⟩
 refine Zaa rfl rfl ?_
 iterate 3 refine Zab ?_
 refine ZaR ?_
 refine Zac rfl (And.intro rfl ?_)
 refine Zar rfl ?_
 refine ZcS (hp':=[.cell (Za2 n) true, .cell [.v .s s] true, .cell (Za2 Zfq) true]++ZkU Zfq++ [.cell (Zkk 3 Zfq) true]) rfl ?_
 refine Zab ?_
 refine Zaf ?_
 refine Zae ?_
 refine Zab ?_
 refine Zaf ?_
 refine Zae ?_
 refine Zag rfl (fun _=>rfl) rfl rfl rfl ?_
 refine Zac rfl ((hE).mono ?_)
 rintro _ rfl
 refine Zaa rfl rfl ?_
 refine Zab ?_
 refine Zaf ?_
 refine Zae ?_
 iterate 2 refine Zab ?_
 refine Zaf ?_
 refine brF rfl ?_
 refine ZaJ ?_
 refine Zae ?_
 refine Zag rfl (fun _=>rfl) rfl rfl rfl ?_
 refine Zag rfl (fun _=>rfl) rfl rfl rfl ?_
 refine Zac rfl ((hO).mono ?_)
 rintro _ rfl
 refine Zaa rfl rfl ?_
 iterate 5 refine Zab ?_
 refine Zaf ?_
 refine Zae ?_
 iterate 2 refine Zab ?_
 refine Zaf ?_
 refine brF rfl ?_
 refine ZaJ ?_
 refine Zae ?_
 iterate 3 refine Zab ?_
 refine Zad rfl ?_
 refine Zad rfl ?_
 refine Zad rfl ?_
 refine Zas rfl ?_
 refine Zab ?_
 refine Zad rfl ?_
 refine Zad rfl ?_
 refine Zad rfl ?_
 refine Zas rfl ?_
 refine Zaf ?_
 refine And.intro (fun h'=>by first|(cases h';done)|exact(nf h' hI').elim) (fun _=> ?_)
 refine ZaJ ?_
 refine Zae ?_
 iterate 2 refine Zab ?_
 refine Zaf ?_
 refine brT rfl ?_
 refine Zae ?_
 iterate 3 refine Zab ?_
 refine Zad rfl ?_
 refine Zad rfl ?_
 refine Zad rfl ?_
 refine Zat rfl ?_
 refine Zab ?_
 refine Zad hI ?_
 refine Zad hI ?_
 refine Zat hI ?_
 refine Zab ?_
 refine Zad rfl ?_
 refine Zad rfl ?_
 refine Zat rfl ?_
 refine Zab ?_
 refine Zad rfl ?_
 refine Zak rfl rfl rfl rfl (fun _=>rfl) rfl rfl rfl ?_
 refine Zam rfl rfl rfl rfl ((ZlO).mono ?_)
 rintro _ rfl
 refine Zaa rfl rfl ?_
 refine Zat rfl ?_
 refine Zab ?_
 refine Zad rfl ?_
 refine Zak rfl rfl rfl rfl (fun _=>rfl) rfl rfl rfl ?_
 refine Zam rfl rfl rfl rfl (⟨z00,z00,z00,z00,z00,z00,(ZlO.mono ?_)⟩)
 rintro _ rfl
 refine Zaa rfl rfl ?_
 refine Zat rfl ?_
 refine Zab ?_
 refine Zaf ?_
 rfl
end Go.Proofs.YtgngdcpglnfkeaaDoor
