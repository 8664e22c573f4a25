/-
 The reference's NetError. (Printed by tools/genneterr.py.)
-/
import Derived.Test.YtbdkglokkepmfaaDoorU9
set_option linter.constructorNameAsVariable false
set_option linter.unusedSimpArgs false
set_option linter.unusedVariables false
namespace Go.Proofs.YtbdkglokkepmfaaDoor
open Go.Am Go.Tx Ne
set_option maxRecDepth 100000
theorem Zr6 {n:Ne.Net} (h:big n=false):ZbV n=ZbQ (ZaG n.nodes [] (n.nodes.map noI)) (ZaG n.nodes n.nodes ((ZoE n).map id)):=by
 have e:([]++n.nodes.map fun x=>(noI x).1)=n.nodes:=List.map_id' n.nodes
 rw[ZbV,h,Zei,e,List.map_id];rfl
theorem ZqL {n:Ne.Net} (h:big n=false):(ZoE n).length≤100:=by
 simp only[big,Bool.or_eq_false_iff,decide_eq_false_iff_not]at h
 obtain⟨b1,b2,b3,b4,b5,b6⟩:=h
 simp only[ZoE,List.length_append,List.length_map]
 omega
theorem Zr0 (n:Ne.Net): ∀x∈ZoE n,x.2.1.length≤1000∧(x.2.2.1=true→ ∃a b,x.2.1=[a,b]):=by
 intro x hx
 simp only[ZoE,List.mem_append,List.mem_map]at hx
 rcases hx with⟨y,_,rfl⟩|⟨y,_,rfl⟩|⟨y,_,rfl⟩|⟨y,_,rfl⟩|⟨y,_,rfl⟩
 ·exact⟨Nat.le_of_ble_eq_true rfl,fun _=>⟨_,_,rfl⟩⟩
 ·exact⟨Nat.le_of_ble_eq_true rfl,fun _=>⟨_,_,rfl⟩⟩
 ·exact⟨Nat.le_of_ble_eq_true rfl,fun h=>nomatch h⟩
 ·exact⟨Nat.le_of_ble_eq_true rfl,fun h=>nomatch h⟩
 ·exact⟨Nat.le_of_ble_eq_true rfl,fun h=>nomatch h⟩
set_option maxHeartbeats 16000000 in
theorem Zdm (n:Ne.Net):PureOK Tryd.prog Zax 7 [.agg (ZbB n)] (fun V=>V= .v (.i .i64) (ZbV n)):=by
 refine Zav Zaq Tryd.func7 ?_
 refine Zae ?_
 refine ZaQ ?_
 refine Zaa ?_
 refine Zad ?_
 cases g1:decide ((n.nodes.length:Int)>(24:Int))with
 |true=>
  have eN:ZbV n=2:=Zb6 (by rw[Zc0,g1];simp)
  refine Zae ?_
  refine Zaa ?_
  refine Zag rfl (fun _=>rfl) rfl rfl rfl ?_
  iterate 3 refine Zaa ?_
  refine Zai g1 ?_
  refine Zai g1 ?_
  refine Zai g1 ?_
  refine Zai g1 ?_
  refine Zas g1 ?_
  refine Zaa ?_
  refine Zai rfl ?_
  refine Zai rfl ?_
  refine Zai rfl ?_
  refine Zai rfl ?_
  refine Zas rfl ?_
  refine Zaa ?_
  refine Zai rfl ?_
  refine Zai rfl ?_
  refine Zai rfl ?_
  refine Zai rfl ?_
  refine Zas rfl ?_
  refine Zaa ?_
  refine Zai rfl ?_
  refine Zai rfl ?_
  refine Zai rfl ?_
  refine Zai rfl ?_
  refine Zas rfl ?_
  refine Zaa ?_
  refine Zai rfl ?_
  refine Zai rfl ?_
  refine Zai rfl ?_
  refine Zai rfl ?_
  refine Zas rfl ?_
  refine Zad ?_
  refine brT g1 ?_
  refine Zae ?_
  refine Zaa ?_
  refine Zad ?_
  exact congrArg (fun x=>SV.v (.i .i64) x) eN.symm
 |false=>
  cases g2:decide ((n.sws.length:Int)>(32:Int))with
  |true=>
   have eN:ZbV n=2:=Zb6 (by rw[Zc0,g1,g2];simp)
   refine Zae ?_
   refine Zaa ?_
   refine Zag rfl (fun _=>rfl) rfl rfl rfl ?_
   iterate 3 refine Zaa ?_
   refine Zac g1 ?_
   refine Zal rfl rfl rfl g1 (fun _=>rfl) rfl rfl rfl ?_
   refine Zac g1 ?_
   refine Zac g1 ?_
   refine Zap g1 ?_
   refine Zaa ?_
   refine Zai g2 ?_
   refine Zai g2 ?_
   refine Zai g2 ?_
   refine Zai g2 ?_
   refine Zas g2 ?_
   refine Zaa ?_
   refine Zai rfl ?_
   refine Zai rfl ?_
   refine Zai rfl ?_
   refine Zai rfl ?_
   refine Zas rfl ?_
   refine Zaa ?_
   refine Zai rfl ?_
   refine Zai rfl ?_
   refine Zai rfl ?_
   refine Zai rfl ?_
   refine Zas rfl ?_
   refine Zaa ?_
   refine Zai rfl ?_
   refine Zai rfl ?_
   refine Zai rfl ?_
   refine Zai rfl ?_
   refine Zas rfl ?_
   refine Zad ?_
   refine brT g2 ?_
   refine Zae ?_
   refine Zaa ?_
   refine Zad ?_
   exact congrArg (fun x=>SV.v (.i .i64) x) eN.symm
  |false=>
   cases g3:decide ((n.brs.length:Int)>(24:Int))with
   |true=>
    have eN:ZbV n=2:=Zb6 (by rw[Zc0,g1,g2,g3];simp)
    refine Zae ?_
    refine Zaa ?_
    refine Zag rfl (fun _=>rfl) rfl rfl rfl ?_
    iterate 3 refine Zaa ?_
    refine Zac g1 ?_
    refine Zal rfl rfl rfl g1 (fun _=>rfl) rfl rfl rfl ?_
    refine Zac g1 ?_
    refine Zac g1 ?_
    refine Zap g1 ?_
    refine Zaa ?_
    refine Zac g2 ?_
    refine Zal rfl rfl rfl g2 (fun _=>rfl) rfl rfl rfl ?_
    refine Zac g2 ?_
    refine Zac g2 ?_
    refine Zap g2 ?_
    refine Zaa ?_
    refine Zai g3 ?_
    refine Zai g3 ?_
    refine Zai g3 ?_
    refine Zai g3 ?_
    refine Zas g3 ?_
    refine Zaa ?_
    refine Zai rfl ?_
    refine Zai rfl ?_
    refine Zai rfl ?_
    refine Zai rfl ?_
    refine Zas rfl ?_
    refine Zaa ?_
    refine Zai rfl ?_
    refine Zai rfl ?_
    refine Zai rfl ?_
    refine Zai rfl ?_
    refine Zas rfl ?_
    refine Zad ?_
    refine brT g3 ?_
    refine Zae ?_
    refine Zaa ?_
    refine Zad ?_
    exact congrArg (fun x=>SV.v (.i .i64) x) eN.symm
   |false=>
    cases g4:decide ((n.gens.length:Int)>(10:Int))with
    |true=>
     have eN:ZbV n=2:=Zb6 (by rw[Zc0,g1,g2,g3,g4];simp)
     refine Zae ?_
     refine Zaa ?_
     refine Zag rfl (fun _=>rfl) rfl rfl rfl ?_
     iterate 3 refine Zaa ?_
     refine Zac g1 ?_
     refine Zal rfl rfl rfl g1 (fun _=>rfl) rfl rfl rfl ?_
     refine Zac g1 ?_
     refine Zac g1 ?_
     refine Zap g1 ?_
     refine Zaa ?_
     refine Zac g2 ?_
     refine Zal rfl rfl rfl g2 (fun _=>rfl) rfl rfl rfl ?_
     refine Zac g2 ?_
     refine Zac g2 ?_
     refine Zap g2 ?_
     refine Zaa ?_
     refine Zac g3 ?_
     refine Zal rfl rfl rfl g3 (fun _=>rfl) rfl rfl rfl ?_
     refine Zac g3 ?_
     refine Zac g3 ?_
     refine Zap g3 ?_
     refine Zaa ?_
     refine Zai g4 ?_
     refine Zai g4 ?_
     refine Zai g4 ?_
     refine Zai g4 ?_
     refine Zas g4 ?_
     refine Zaa ?_
     refine Zai rfl ?_
     refine Zai rfl ?_
     refine Zai rfl ?_
     refine Zai rfl ?_
     refine Zas rfl ?_
     refine Zad ?_
     refine brT g4 ?_
     refine Zae ?_
     refine Zaa ?_
     refine Zad ?_
     exact congrArg (fun x=>SV.v (.i .i64) x) eN.symm
    |false=>
     cases g5:decide ((n.loads.length:Int)>(12:Int))with
     |true=>
      have eN:ZbV n=2:=Zb6 (by rw[Zc0,g1,g2,g3,g4,g5];simp)
      refine Zae ?_
      refine Zaa ?_
      refine Zag rfl (fun _=>rfl) rfl rfl rfl ?_
      iterate 3 refine Zaa ?_
      refine Zac g1 ?_
      refine Zal rfl rfl rfl g1 (fun _=>rfl) rfl rfl rfl ?_
      refine Zac g1 ?_
      refine Zac g1 ?_
      refine Zap g1 ?_
      refine Zaa ?_
      refine Zac g2 ?_
      refine Zal rfl rfl rfl g2 (fun _=>rfl) rfl rfl rfl ?_
      refine Zac g2 ?_
      refine Zac g2 ?_
      refine Zap g2 ?_
      refine Zaa ?_
      refine Zac g3 ?_
      refine Zal rfl rfl rfl g3 (fun _=>rfl) rfl rfl rfl ?_
      refine Zac g3 ?_
      refine Zac g3 ?_
      refine Zap g3 ?_
      refine Zaa ?_
      refine Zac g4 ?_
      refine Zal rfl rfl rfl g4 (fun _=>rfl) rfl rfl rfl ?_
      refine Zac g4 ?_
      refine Zac g4 ?_
      refine Zap g4 ?_
      refine Zaa ?_
      refine Zai g5 ?_
      refine Zai g5 ?_
      refine Zai g5 ?_
      refine Zai g5 ?_
      refine Zas g5 ?_
      refine Zad ?_
      refine brT g5 ?_
      refine Zae ?_
      refine Zaa ?_
      refine Zad ?_
      exact congrArg (fun x=>SV.v (.i .i64) x) eN.symm
     |false=>
      cases g6:decide ((n.stores.length:Int)>(4:Int))with
      |true=>
       have eN:ZbV n=2:=Zb6 (by rw[Zc0,g1,g2,g3,g4,g5,g6];simp)
       refine Zae ?_
       refine Zaa ?_
       refine Zag rfl (fun _=>rfl) rfl rfl rfl ?_
       iterate 3 refine Zaa ?_
       refine Zac g1 ?_
       refine Zal rfl rfl rfl g1 (fun _=>rfl) rfl rfl rfl ?_
       refine Zac g1 ?_
       refine Zac g1 ?_
       refine Zap g1 ?_
       refine Zaa ?_
       refine Zac g2 ?_
       refine Zal rfl rfl rfl g2 (fun _=>rfl) rfl rfl rfl ?_
       refine Zac g2 ?_
       refine Zac g2 ?_
       refine Zap g2 ?_
       refine Zaa ?_
       refine Zac g3 ?_
       refine Zal rfl rfl rfl g3 (fun _=>rfl) rfl rfl rfl ?_
       refine Zac g3 ?_
       refine Zac g3 ?_
       refine Zap g3 ?_
       refine Zaa ?_
       refine Zac g4 ?_
       refine Zal rfl rfl rfl g4 (fun _=>rfl) rfl rfl rfl ?_
       refine Zac g4 ?_
       refine Zac g4 ?_
       refine Zap g4 ?_
       refine Zaa ?_
       refine Zac g5 ?_
       refine Zal rfl rfl rfl g5 (fun _=>rfl) rfl rfl rfl ?_
       refine Zac g5 ?_
       refine Zac g5 ?_
       refine Zap g5 ?_
       refine Zad ?_
       refine brT g6 ?_
       refine Zae ?_
       refine Zaa ?_
       refine Zad ?_
       exact congrArg (fun x=>SV.v (.i .i64) x) eN.symm
      |false=>
       refine Zae ?_
       refine Zaa ?_
       refine Zag rfl (fun _=>rfl) rfl rfl rfl ?_
       iterate 3 refine Zaa ?_
       refine Zac g1 ?_
       refine Zal rfl rfl rfl g1 (fun _=>rfl) rfl rfl rfl ?_
       refine Zac g1 ?_
       refine Zac g1 ?_
       refine Zap g1 ?_
       refine Zaa ?_
       refine Zac g2 ?_
       refine Zal rfl rfl rfl g2 (fun _=>rfl) rfl rfl rfl ?_
       refine Zac g2 ?_
       refine Zac g2 ?_
       refine Zap g2 ?_
       refine Zaa ?_
       refine Zac g3 ?_
       refine Zal rfl rfl rfl g3 (fun _=>rfl) rfl rfl rfl ?_
       refine Zac g3 ?_
       refine Zac g3 ?_
       refine Zap g3 ?_
       refine Zaa ?_
       refine Zac g4 ?_
       refine Zal rfl rfl rfl g4 (fun _=>rfl) rfl rfl rfl ?_
       refine Zac g4 ?_
       refine Zac g4 ?_
       refine Zap g4 ?_
       refine Zaa ?_
       refine Zac g5 ?_
       refine Zal rfl rfl rfl g5 (fun _=>rfl) rfl rfl rfl ?_
       refine Zac g5 ?_
       refine Zac g5 ?_
       refine Zap g5 ?_
       refine Zad ?_
       refine brF g6 ?_
       have hb:big n=false:=by rw[Zc0,g1,g2,g3,g4,g5,g6];rfl
       have eN:=Zr6 hb
       have hb':=hb
       simp only[big,Bool.or_eq_false_iff,decide_eq_false_iff_not]at hb'
       obtain⟨b1,b2,b3,b4,b5,b6⟩:=hb'
       have hI:=Zsp n hb
       have l1:=Ztm (ZbB n) n.nodes (ZbH n) (by omega)
       have l2:=Ztl n n.nodes (ZoE n) (by omega) (by omega) (ZqL hb) (Zr0 n)
       rw[eN]
       refine Zae ?_
       refine ZaQ ?_
       refine Zad ?_
       refine Zae ?_
       iterate 2 refine Zaa ?_
       refine Zad ?_
       refine Zae ?_
       refine Zaa ?_
       refine Zag rfl (fun _=>rfl) rfl rfl rfl ?_
       iterate 2 refine Zaa ?_
       refine Zad ?_
       refine(l1.ent ?_).through ?_
       ·refine Ent.trans (tm1:=yNo n.nodes 0) (hp1:=[.cell (ZbB n) true, .cell [.nils] true]) (Zah ⟨rfl,rfl,rfl,rfl,rfl,trivial⟩) ?_
        refine ZmP (σ:=[.is 0, .is 1, .nil]) rfl rfl ?_ ?_
        ·exact⟨⟨rfl,rfl⟩,⟨rfl,trivial,⟨rfl,rfl⟩,trivial⟩,rfl,rfl,rfl,trivial⟩
        ·exact⟨⟨⟨rfl,rfl,rfl,rfl,rfl,rfl,trivial⟩,id⟩,⟨⟨⟨rfl,rfl,rfl⟩,trivial⟩,id⟩,rfl,trivial⟩
       rintro _ tm hp' (⟨rfl,ha,hE⟩|⟨rfl,ha,hE⟩)
       ·refine⟨_,_,hE, ?_⟩
        rw[Zni ha]
        show wp _ _ _ _ _ _ _ _ _
        refine Zae ?_
        refine Zag rfl (fun _=>rfl) rfl rfl rfl ?_
        refine Zaf rfl ((hI).mono ?_)
        rintro _ rfl
        refine Zab rfl rfl ?_
        iterate 2 refine Zaa ?_
        refine Zad ?_
        refine(l2.ent ?_).through ?_
        ·exact Zah ⟨rfl,rfl,rfl,rfl,rfl,trivial⟩
        rintro _ tm hp' (⟨rfl,ha,hE⟩|⟨rfl,ha,hE⟩)
        ·refine⟨_,_,hE, ?_⟩
         show wp _ _ _ _ _ _ _ _ _
         refine Zae ?_
         refine Zaa ?_
         refine Zad ?_
         exact congrArg (fun x=>SV.v (.i .i64) x) ha.symm
        ·exact⟨_,_,hE,rfl⟩
       ·refine⟨_,_,hE, ?_⟩
        exact congrArg (fun x=>SV.v (.i .i64) x) (ZnE ha).symm
end Go.Proofs.YtbdkglokkepmfaaDoor
