/-
 The reference's NetError. (Printed by tools/genneterr.py.)
-/
import Derived.Test.YtgngdcpglnfkeaaDoorU9
set_option linter.constructorNameAsVariable false
set_option linter.unusedSimpArgs false
set_option linter.unusedVariables false
namespace Go.Proofs.YtgngdcpglnfkeaaDoor
open Go.Am Go.Tx Ne
set_option maxRecDepth 100000
theorem Zth {n:Ne.Net} (h:big n=false):ZcK n=Zb6 (ZaG n.nodes [] (n.nodes.map noI)) (ZaG n.nodes n.nodes ((ZjJ n).map id)):=by
 have e:([]++n.nodes.map fun x=>(noI x).1)=n.nodes:=List.map_id' n.nodes
 rw[ZcK,h,Zet,e,List.map_id];rfl
theorem ZrT {n:Ne.Net} (h:big n=false):(ZjJ n).length≤100:=by
 simp only[big,Bool.or_eq_false_iff,decide_eq_false_iff_not]at h
 obtain⟨b1,b2,b3,b4,b5,b6⟩:=h
 simp only[ZjJ,List.length_append,List.length_map]
 omega
theorem ZtO (n:Ne.Net): ∀x∈ZjJ n,x.2.1.length≤1000∧(x.2.2.1=true→ ∃a b,x.2.1=[a,b]):=by
 intro x hx
 simp only[ZjJ,List.mem_append,List.mem_map]at hx
 rcases hx with⟨y,_,rfl⟩|⟨y,_,rfl⟩|⟨y,_,rfl⟩|⟨y,_,rfl⟩|⟨y,_,rfl⟩
 ·exact⟨Nat.le_of_ble_eq_true rfl,fun _=>⟨_,_,rfl⟩⟩
 ·exact⟨Nat.le_of_ble_eq_true rfl,fun _=>⟨_,_,rfl⟩⟩
 ·exact⟨Nat.le_of_ble_eq_true rfl,fun h=>nomatch h⟩
 ·exact⟨Nat.le_of_ble_eq_true rfl,fun h=>nomatch h⟩
 ·exact⟨Nat.le_of_ble_eq_true rfl,fun h=>nomatch h⟩
set_option maxHeartbeats 16000000 in
theorem ZeJ (n:Ne.Net):PureOK Tryd.prog Zaw 11 [.agg (Za2 n)] (fun V=>V= .v (.i .i64) (ZcK n)):=by
 refine Zau Zao Tryd.func11 ?_
 refine Zae ?_
 refine ZaR ?_
 refine Zab ?_
 refine Zaf ?_
 cases g1:decide ((n.nodes.length:Int)>(24:Int))with
 |true=>
  have eN:ZcK n=2:=Zcc (by rw[Zc2,g1];simp)
  refine Zae ?_
  refine Zab ?_
  refine Zag rfl (fun _=>rfl) rfl rfl rfl ?_
  iterate 3 refine Zab ?_
  refine Zaj g1 ?_
  refine Zaj g1 ?_
  refine Zaj g1 ?_
  refine Zaj g1 ?_
  refine Zat g1 ?_
  refine Zab ?_
  refine Zaj rfl ?_
  refine Zaj rfl ?_
  refine Zaj rfl ?_
  refine Zaj rfl ?_
  refine Zat rfl ?_
  refine Zab ?_
  refine Zaj rfl ?_
  refine Zaj rfl ?_
  refine Zaj rfl ?_
  refine Zaj rfl ?_
  refine Zat rfl ?_
  refine Zab ?_
  refine Zaj rfl ?_
  refine Zaj rfl ?_
  refine Zaj rfl ?_
  refine Zaj rfl ?_
  refine Zat rfl ?_
  refine Zab ?_
  refine Zaj rfl ?_
  refine Zaj rfl ?_
  refine Zaj rfl ?_
  refine Zaj rfl ?_
  refine Zat rfl ?_
  refine Zaf ?_
  refine brT g1 ?_
  refine Zae ?_
  refine Zab ?_
  refine Zaf ?_
  exact congrArg (fun x=>SV.v (.i .i64) x) eN.symm
 |false=>
  cases g2:decide ((n.sws.length:Int)>(32:Int))with
  |true=>
   have eN:ZcK n=2:=Zcc (by rw[Zc2,g1,g2];simp)
   refine Zae ?_
   refine Zab ?_
   refine Zag rfl (fun _=>rfl) rfl rfl rfl ?_
   iterate 3 refine Zab ?_
   refine Zad g1 ?_
   refine Zak rfl rfl rfl g1 (fun _=>rfl) rfl rfl rfl ?_
   refine Zad g1 ?_
   refine Zad g1 ?_
   refine Zas g1 ?_
   refine Zab ?_
   refine Zaj g2 ?_
   refine Zaj g2 ?_
   refine Zaj g2 ?_
   refine Zaj g2 ?_
   refine Zat g2 ?_
   refine Zab ?_
   refine Zaj rfl ?_
   refine Zaj rfl ?_
   refine Zaj rfl ?_
   refine Zaj rfl ?_
   refine Zat rfl ?_
   refine Zab ?_
   refine Zaj rfl ?_
   refine Zaj rfl ?_
   refine Zaj rfl ?_
   refine Zaj rfl ?_
   refine Zat rfl ?_
   refine Zab ?_
   refine Zaj rfl ?_
   refine Zaj rfl ?_
   refine Zaj rfl ?_
   refine Zaj rfl ?_
   refine Zat rfl ?_
   refine Zaf ?_
   refine brT g2 ?_
   refine Zae ?_
   refine Zab ?_
   refine Zaf ?_
   exact congrArg (fun x=>SV.v (.i .i64) x) eN.symm
  |false=>
   cases g3:decide ((n.brs.length:Int)>(24:Int))with
   |true=>
    have eN:ZcK n=2:=Zcc (by rw[Zc2,g1,g2,g3];simp)
    refine Zae ?_
    refine Zab ?_
    refine Zag rfl (fun _=>rfl) rfl rfl rfl ?_
    iterate 3 refine Zab ?_
    refine Zad g1 ?_
    refine Zak rfl rfl rfl g1 (fun _=>rfl) rfl rfl rfl ?_
    refine Zad g1 ?_
    refine Zad g1 ?_
    refine Zas g1 ?_
    refine Zab ?_
    refine Zad g2 ?_
    refine Zak rfl rfl rfl g2 (fun _=>rfl) rfl rfl rfl ?_
    refine Zad g2 ?_
    refine Zad g2 ?_
    refine Zas g2 ?_
    refine Zab ?_
    refine Zaj g3 ?_
    refine Zaj g3 ?_
    refine Zaj g3 ?_
    refine Zaj g3 ?_
    refine Zat g3 ?_
    refine Zab ?_
    refine Zaj rfl ?_
    refine Zaj rfl ?_
    refine Zaj rfl ?_
    refine Zaj rfl ?_
    refine Zat rfl ?_
    refine Zab ?_
    refine Zaj rfl ?_
    refine Zaj rfl ?_
    refine Zaj rfl ?_
    refine Zaj rfl ?_
    refine Zat rfl ?_
    refine Zaf ?_
    refine brT g3 ?_
    refine Zae ?_
    refine Zab ?_
    refine Zaf ?_
    exact congrArg (fun x=>SV.v (.i .i64) x) eN.symm
   |false=>
    cases g4:decide ((n.gens.length:Int)>(10:Int))with
    |true=>
     have eN:ZcK n=2:=Zcc (by rw[Zc2,g1,g2,g3,g4];simp)
     refine Zae ?_
     refine Zab ?_
     refine Zag rfl (fun _=>rfl) rfl rfl rfl ?_
     iterate 3 refine Zab ?_
     refine Zad g1 ?_
     refine Zak rfl rfl rfl g1 (fun _=>rfl) rfl rfl rfl ?_
     refine Zad g1 ?_
     refine Zad g1 ?_
     refine Zas g1 ?_
     refine Zab ?_
     refine Zad g2 ?_
     refine Zak rfl rfl rfl g2 (fun _=>rfl) rfl rfl rfl ?_
     refine Zad g2 ?_
     refine Zad g2 ?_
     refine Zas g2 ?_
     refine Zab ?_
     refine Zad g3 ?_
     refine Zak rfl rfl rfl g3 (fun _=>rfl) rfl rfl rfl ?_
     refine Zad g3 ?_
     refine Zad g3 ?_
     refine Zas g3 ?_
     refine Zab ?_
     refine Zaj g4 ?_
     refine Zaj g4 ?_
     refine Zaj g4 ?_
     refine Zaj g4 ?_
     refine Zat g4 ?_
     refine Zab ?_
     refine Zaj rfl ?_
     refine Zaj rfl ?_
     refine Zaj rfl ?_
     refine Zaj rfl ?_
     refine Zat rfl ?_
     refine Zaf ?_
     refine brT g4 ?_
     refine Zae ?_
     refine Zab ?_
     refine Zaf ?_
     exact congrArg (fun x=>SV.v (.i .i64) x) eN.symm
    |false=>
     cases g5:decide ((n.loads.length:Int)>(12:Int))with
     |true=>
      have eN:ZcK n=2:=Zcc (by rw[Zc2,g1,g2,g3,g4,g5];simp)
      refine Zae ?_
      refine Zab ?_
      refine Zag rfl (fun _=>rfl) rfl rfl rfl ?_
      iterate 3 refine Zab ?_
      refine Zad g1 ?_
      refine Zak rfl rfl rfl g1 (fun _=>rfl) rfl rfl rfl ?_
      refine Zad g1 ?_
      refine Zad g1 ?_
      refine Zas g1 ?_
      refine Zab ?_
      refine Zad g2 ?_
      refine Zak rfl rfl rfl g2 (fun _=>rfl) rfl rfl rfl ?_
      refine Zad g2 ?_
      refine Zad g2 ?_
      refine Zas g2 ?_
      refine Zab ?_
      refine Zad g3 ?_
      refine Zak rfl rfl rfl g3 (fun _=>rfl) rfl rfl rfl ?_
      refine Zad g3 ?_
      refine Zad g3 ?_
      refine Zas g3 ?_
      refine Zab ?_
      refine Zad g4 ?_
      refine Zak rfl rfl rfl g4 (fun _=>rfl) rfl rfl rfl ?_
      refine Zad g4 ?_
      refine Zad g4 ?_
      refine Zas g4 ?_
      refine Zab ?_
      refine Zaj g5 ?_
      refine Zaj g5 ?_
      refine Zaj g5 ?_
      refine Zaj g5 ?_
      refine Zat g5 ?_
      refine Zaf ?_
      refine brT g5 ?_
      refine Zae ?_
      refine Zab ?_
      refine Zaf ?_
      exact congrArg (fun x=>SV.v (.i .i64) x) eN.symm
     |false=>
      cases g6:decide ((n.stores.length:Int)>(4:Int))with
      |true=>
       have eN:ZcK n=2:=Zcc (by rw[Zc2,g1,g2,g3,g4,g5,g6];simp)
       refine Zae ?_
       refine Zab ?_
       refine Zag rfl (fun _=>rfl) rfl rfl rfl ?_
       iterate 3 refine Zab ?_
       refine Zad g1 ?_
       refine Zak rfl rfl rfl g1 (fun _=>rfl) rfl rfl rfl ?_
       refine Zad g1 ?_
       refine Zad g1 ?_
       refine Zas g1 ?_
       refine Zab ?_
       refine Zad g2 ?_
       refine Zak rfl rfl rfl g2 (fun _=>rfl) rfl rfl rfl ?_
       refine Zad g2 ?_
       refine Zad g2 ?_
       refine Zas g2 ?_
       refine Zab ?_
       refine Zad g3 ?_
       refine Zak rfl rfl rfl g3 (fun _=>rfl) rfl rfl rfl ?_
       refine Zad g3 ?_
       refine Zad g3 ?_
       refine Zas g3 ?_
       refine Zab ?_
       refine Zad g4 ?_
       refine Zak rfl rfl rfl g4 (fun _=>rfl) rfl rfl rfl ?_
       refine Zad g4 ?_
       refine Zad g4 ?_
       refine Zas g4 ?_
       refine Zab ?_
       refine Zad g5 ?_
       refine Zak rfl rfl rfl g5 (fun _=>rfl) rfl rfl rfl ?_
       refine Zad g5 ?_
       refine Zad g5 ?_
       refine Zas g5 ?_
       refine Zaf ?_
       refine brT g6 ?_
       refine Zae ?_
       refine Zab ?_
       refine Zaf ?_
       exact congrArg (fun x=>SV.v (.i .i64) x) eN.symm
      |false=>
       refine Zae ?_
       refine Zab ?_
       refine Zag rfl (fun _=>rfl) rfl rfl rfl ?_
       iterate 3 refine Zab ?_
       refine Zad g1 ?_
       refine Zak rfl rfl rfl g1 (fun _=>rfl) rfl rfl rfl ?_
       refine Zad g1 ?_
       refine Zad g1 ?_
       refine Zas g1 ?_
       refine Zab ?_
       refine Zad g2 ?_
       refine Zak rfl rfl rfl g2 (fun _=>rfl) rfl rfl rfl ?_
       refine Zad g2 ?_
       refine Zad g2 ?_
       refine Zas g2 ?_
       refine Zab ?_
       refine Zad g3 ?_
       refine Zak rfl rfl rfl g3 (fun _=>rfl) rfl rfl rfl ?_
       refine Zad g3 ?_
       refine Zad g3 ?_
       refine Zas g3 ?_
       refine Zab ?_
       refine Zad g4 ?_
       refine Zak rfl rfl rfl g4 (fun _=>rfl) rfl rfl rfl ?_
       refine Zad g4 ?_
       refine Zad g4 ?_
       refine Zas g4 ?_
       refine Zab ?_
       refine Zad g5 ?_
       refine Zak rfl rfl rfl g5 (fun _=>rfl) rfl rfl rfl ?_
       refine Zad g5 ?_
       refine Zad g5 ?_
       refine Zas g5 ?_
       refine Zaf ?_
       refine brF g6 ?_
       have hb:big n=false:=by rw[Zc2,g1,g2,g3,g4,g5,g6];rfl
       have eN:=Zth hb
       have hb':=hb
       simp only[big,Bool.or_eq_false_iff,decide_eq_false_iff_not]at hb'
       obtain⟨b1,b2,b3,b4,b5,b6⟩:=hb'
       have hI:=Zpg n hb
       have l1:=ZtJ (Za2 n) n.nodes (ZbS n) (by omega)
       have l2:=Ztf n n.nodes (ZjJ n) (by omega) (by omega) (ZrT hb) (ZtO n)
       rw[eN]
       refine Zae ?_
       refine ZaR ?_
       refine Zaf ?_
       refine Zae ?_
       iterate 2 refine Zab ?_
       refine Zaf ?_
       refine Zae ?_
       refine Zab ?_
       refine Zag rfl (fun _=>rfl) rfl rfl rfl ?_
       iterate 2 refine Zab ?_
       refine Zaf ?_
       refine(l1.ent ?_).through ?_
       ·refine Ent.trans (tm1:=yNo n.nodes 0) (hp1:=[.cell (Za2 n) true, .cell [.nils] true]) (Zai ⟨rfl,rfl,rfl,rfl,rfl,trivial⟩) ?_
        refine Zbm (σ:=[.is 0, .is 1, .nil]) rfl rfl ?_ ?_
        ·exact⟨⟨rfl,rfl⟩,⟨rfl,trivial,⟨rfl,rfl⟩,trivial⟩,rfl,rfl,rfl,trivial⟩
        ·exact⟨⟨⟨rfl,rfl,rfl,rfl,rfl,rfl,trivial⟩,id⟩,⟨⟨⟨rfl,rfl,rfl⟩,trivial⟩,id⟩,rfl,trivial⟩
       rintro _ tm hp' (⟨rfl,ha,hE⟩|⟨rfl,ha,hE⟩)
       ·refine⟨_,_,hE, ?_⟩
        rw[Zod ha]
        show wp _ _ _ _ _ _ _ _ _
        refine Zae ?_
        refine Zag rfl (fun _=>rfl) rfl rfl rfl ?_
        refine Zac rfl ((hI).mono ?_)
        rintro _ rfl
        refine Zaa rfl rfl ?_
        iterate 2 refine Zab ?_
        refine Zaf ?_
        refine(l2.ent ?_).through ?_
        ·exact Zai ⟨rfl,rfl,rfl,rfl,rfl,trivial⟩
        rintro _ tm hp' (⟨rfl,ha,hE⟩|⟨rfl,ha,hE⟩)
        ·refine⟨_,_,hE, ?_⟩
         show wp _ _ _ _ _ _ _ _ _
         refine Zae ?_
         refine Zab ?_
         refine Zaf ?_
         exact congrArg (fun x=>SV.v (.i .i64) x) ha.symm
        ·exact⟨_,_,hE,rfl⟩
       ·refine⟨_,_,hE, ?_⟩
        exact congrArg (fun x=>SV.v (.i .i64) x) (ZoF ha).symm
end Go.Proofs.YtgngdcpglnfkeaaDoor
