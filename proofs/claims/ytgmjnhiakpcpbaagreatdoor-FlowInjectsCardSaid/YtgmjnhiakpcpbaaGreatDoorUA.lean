/-
 The reference's NetError. (Printed by tools/genneterr.py.)
-/
import Derived.Test.YtgmjnhiakpcpbaaGreatDoorU9
set_option linter.constructorNameAsVariable false
set_option linter.unusedSimpArgs false
set_option linter.unusedVariables false
namespace Go.Proofs.YtgmjnhiakpcpbaaGreatDoor
open Go.Am Go.Tx Ne
set_option maxRecDepth 100000
theorem ZrY {n:Ne.Net} (h:big n=false):ZdM n=ZbO (ZaC n.nodes [] (n.nodes.map noI)) (ZaC n.nodes n.nodes ((Zo6 n).map id)):=by
 have e:([]++n.nodes.map fun x=>(noI x).1)=n.nodes:=List.map_id' n.nodes
 rw[ZdM,h,Zd9,e,List.map_id];rfl
theorem ZqI {n:Ne.Net} (h:big n=false):(Zo6 n).length≤100:=by
 simp only[big,Bool.or_eq_false_iff,decide_eq_false_iff_not]at h
 obtain⟨b1,b2,b3,b4,b5,b6⟩:=h
 simp only[Zo6,List.length_append,List.length_map]
 omega
theorem Zs0 (n:Ne.Net): ∀x∈Zo6 n,x.2.1.length≤1000∧(x.2.2.1=true→ ∃a b,x.2.1=[a,b]):=by
 intro x hx
 simp only[Zo6,List.mem_append,List.mem_map]at hx
 rcases hx with⟨y,_,rfl⟩|⟨y,_,rfl⟩|⟨y,_,rfl⟩|⟨y,_,rfl⟩|⟨y,_,rfl⟩
 ·exact⟨Nat.le_of_ble_eq_true rfl,fun _=>⟨_,_,rfl⟩⟩
 ·exact⟨Nat.le_of_ble_eq_true rfl,fun _=>⟨_,_,rfl⟩⟩
 ·exact⟨Nat.le_of_ble_eq_true rfl,fun h=>nomatch h⟩
 ·exact⟨Nat.le_of_ble_eq_true rfl,fun h=>nomatch h⟩
 ·exact⟨Nat.le_of_ble_eq_true rfl,fun h=>nomatch h⟩
set_option maxHeartbeats 16000000 in
theorem Zdh (n:Ne.Net):PureOK Tryz.prog ZaO 7 [.agg (ZbD n)] (fun V=>V= .v (.i .i64) (ZdM n)):=by
 refine Zaz Zaw Tryz.func7 ?_
 refine Zae ?_
 refine Zbs ?_
 refine Zab ?_
 refine Zad ?_
 cases g1:decide ((n.nodes.length:Int)>(24:Int))with
 |true=>
  have eN:ZdM n=2:=Zb0 (by rw[ZcQ,g1];simp)
  refine Zae ?_
  refine Zab ?_
  refine Zal rfl (fun _=>rfl) rfl rfl rfl ?_
  iterate 3 refine Zab ?_
  refine Zag g1 ?_
  refine Zag g1 ?_
  refine Zag g1 ?_
  refine Zag g1 ?_
  refine Zaq g1 ?_
  refine Zab ?_
  refine Zag rfl ?_
  refine Zag rfl ?_
  refine Zag rfl ?_
  refine Zag rfl ?_
  refine Zaq rfl ?_
  refine Zab ?_
  refine Zag rfl ?_
  refine Zag rfl ?_
  refine Zag rfl ?_
  refine Zag rfl ?_
  refine Zaq rfl ?_
  refine Zab ?_
  refine Zag rfl ?_
  refine Zag rfl ?_
  refine Zag rfl ?_
  refine Zag rfl ?_
  refine Zaq rfl ?_
  refine Zab ?_
  refine Zag rfl ?_
  refine Zag rfl ?_
  refine Zag rfl ?_
  refine Zag rfl ?_
  refine Zaq rfl ?_
  refine Zad ?_
  refine brT g1 ?_
  refine Zae ?_
  refine Zab ?_
  refine Zad ?_
  exact congrArg (fun x=>SV.v (.i .i64) x) eN.symm
 |false=>
  cases g2:decide ((n.sws.length:Int)>(32:Int))with
  |true=>
   have eN:ZdM n=2:=Zb0 (by rw[ZcQ,g1,g2];simp)
   refine Zae ?_
   refine Zab ?_
   refine Zal rfl (fun _=>rfl) rfl rfl rfl ?_
   iterate 3 refine Zab ?_
   refine Zaa g1 ?_
   refine Zai rfl rfl rfl g1 (fun _=>rfl) rfl rfl rfl ?_
   refine Zaa g1 ?_
   refine Zaa g1 ?_
   refine Zap g1 ?_
   refine Zab ?_
   refine Zag g2 ?_
   refine Zag g2 ?_
   refine Zag g2 ?_
   refine Zag g2 ?_
   refine Zaq g2 ?_
   refine Zab ?_
   refine Zag rfl ?_
   refine Zag rfl ?_
   refine Zag rfl ?_
   refine Zag rfl ?_
   refine Zaq rfl ?_
   refine Zab ?_
   refine Zag rfl ?_
   refine Zag rfl ?_
   refine Zag rfl ?_
   refine Zag rfl ?_
   refine Zaq rfl ?_
   refine Zab ?_
   refine Zag rfl ?_
   refine Zag rfl ?_
   refine Zag rfl ?_
   refine Zag rfl ?_
   refine Zaq rfl ?_
   refine Zad ?_
   refine brT g2 ?_
   refine Zae ?_
   refine Zab ?_
   refine Zad ?_
   exact congrArg (fun x=>SV.v (.i .i64) x) eN.symm
  |false=>
   cases g3:decide ((n.brs.length:Int)>(24:Int))with
   |true=>
    have eN:ZdM n=2:=Zb0 (by rw[ZcQ,g1,g2,g3];simp)
    refine Zae ?_
    refine Zab ?_
    refine Zal rfl (fun _=>rfl) rfl rfl rfl ?_
    iterate 3 refine Zab ?_
    refine Zaa g1 ?_
    refine Zai rfl rfl rfl g1 (fun _=>rfl) rfl rfl rfl ?_
    refine Zaa g1 ?_
    refine Zaa g1 ?_
    refine Zap g1 ?_
    refine Zab ?_
    refine Zaa g2 ?_
    refine Zai rfl rfl rfl g2 (fun _=>rfl) rfl rfl rfl ?_
    refine Zaa g2 ?_
    refine Zaa g2 ?_
    refine Zap g2 ?_
    refine Zab ?_
    refine Zag g3 ?_
    refine Zag g3 ?_
    refine Zag g3 ?_
    refine Zag g3 ?_
    refine Zaq g3 ?_
    refine Zab ?_
    refine Zag rfl ?_
    refine Zag rfl ?_
    refine Zag rfl ?_
    refine Zag rfl ?_
    refine Zaq rfl ?_
    refine Zab ?_
    refine Zag rfl ?_
    refine Zag rfl ?_
    refine Zag rfl ?_
    refine Zag rfl ?_
    refine Zaq rfl ?_
    refine Zad ?_
    refine brT g3 ?_
    refine Zae ?_
    refine Zab ?_
    refine Zad ?_
    exact congrArg (fun x=>SV.v (.i .i64) x) eN.symm
   |false=>
    cases g4:decide ((n.gens.length:Int)>(10:Int))with
    |true=>
     have eN:ZdM n=2:=Zb0 (by rw[ZcQ,g1,g2,g3,g4];simp)
     refine Zae ?_
     refine Zab ?_
     refine Zal rfl (fun _=>rfl) rfl rfl rfl ?_
     iterate 3 refine Zab ?_
     refine Zaa g1 ?_
     refine Zai rfl rfl rfl g1 (fun _=>rfl) rfl rfl rfl ?_
     refine Zaa g1 ?_
     refine Zaa g1 ?_
     refine Zap g1 ?_
     refine Zab ?_
     refine Zaa g2 ?_
     refine Zai rfl rfl rfl g2 (fun _=>rfl) rfl rfl rfl ?_
     refine Zaa g2 ?_
     refine Zaa g2 ?_
     refine Zap g2 ?_
     refine Zab ?_
     refine Zaa g3 ?_
     refine Zai rfl rfl rfl g3 (fun _=>rfl) rfl rfl rfl ?_
     refine Zaa g3 ?_
     refine Zaa g3 ?_
     refine Zap g3 ?_
     refine Zab ?_
     refine Zag g4 ?_
     refine Zag g4 ?_
     refine Zag g4 ?_
     refine Zag g4 ?_
     refine Zaq g4 ?_
     refine Zab ?_
     refine Zag rfl ?_
     refine Zag rfl ?_
     refine Zag rfl ?_
     refine Zag rfl ?_
     refine Zaq rfl ?_
     refine Zad ?_
     refine brT g4 ?_
     refine Zae ?_
     refine Zab ?_
     refine Zad ?_
     exact congrArg (fun x=>SV.v (.i .i64) x) eN.symm
    |false=>
     cases g5:decide ((n.loads.length:Int)>(12:Int))with
     |true=>
      have eN:ZdM n=2:=Zb0 (by rw[ZcQ,g1,g2,g3,g4,g5];simp)
      refine Zae ?_
      refine Zab ?_
      refine Zal rfl (fun _=>rfl) rfl rfl rfl ?_
      iterate 3 refine Zab ?_
      refine Zaa g1 ?_
      refine Zai rfl rfl rfl g1 (fun _=>rfl) rfl rfl rfl ?_
      refine Zaa g1 ?_
      refine Zaa g1 ?_
      refine Zap g1 ?_
      refine Zab ?_
      refine Zaa g2 ?_
      refine Zai rfl rfl rfl g2 (fun _=>rfl) rfl rfl rfl ?_
      refine Zaa g2 ?_
      refine Zaa g2 ?_
      refine Zap g2 ?_
      refine Zab ?_
      refine Zaa g3 ?_
      refine Zai rfl rfl rfl g3 (fun _=>rfl) rfl rfl rfl ?_
      refine Zaa g3 ?_
      refine Zaa g3 ?_
      refine Zap g3 ?_
      refine Zab ?_
      refine Zaa g4 ?_
      refine Zai rfl rfl rfl g4 (fun _=>rfl) rfl rfl rfl ?_
      refine Zaa g4 ?_
      refine Zaa g4 ?_
      refine Zap g4 ?_
      refine Zab ?_
      refine Zag g5 ?_
      refine Zag g5 ?_
      refine Zag g5 ?_
      refine Zag g5 ?_
      refine Zaq g5 ?_
      refine Zad ?_
      refine brT g5 ?_
      refine Zae ?_
      refine Zab ?_
      refine Zad ?_
      exact congrArg (fun x=>SV.v (.i .i64) x) eN.symm
     |false=>
      cases g6:decide ((n.stores.length:Int)>(4:Int))with
      |true=>
       have eN:ZdM n=2:=Zb0 (by rw[ZcQ,g1,g2,g3,g4,g5,g6];simp)
       refine Zae ?_
       refine Zab ?_
       refine Zal rfl (fun _=>rfl) rfl rfl rfl ?_
       iterate 3 refine Zab ?_
       refine Zaa g1 ?_
       refine Zai rfl rfl rfl g1 (fun _=>rfl) rfl rfl rfl ?_
       refine Zaa g1 ?_
       refine Zaa g1 ?_
       refine Zap g1 ?_
       refine Zab ?_
       refine Zaa g2 ?_
       refine Zai rfl rfl rfl g2 (fun _=>rfl) rfl rfl rfl ?_
       refine Zaa g2 ?_
       refine Zaa g2 ?_
       refine Zap g2 ?_
       refine Zab ?_
       refine Zaa g3 ?_
       refine Zai rfl rfl rfl g3 (fun _=>rfl) rfl rfl rfl ?_
       refine Zaa g3 ?_
       refine Zaa g3 ?_
       refine Zap g3 ?_
       refine Zab ?_
       refine Zaa g4 ?_
       refine Zai rfl rfl rfl g4 (fun _=>rfl) rfl rfl rfl ?_
       refine Zaa g4 ?_
       refine Zaa g4 ?_
       refine Zap g4 ?_
       refine Zab ?_
       refine Zaa g5 ?_
       refine Zai rfl rfl rfl g5 (fun _=>rfl) rfl rfl rfl ?_
       refine Zaa g5 ?_
       refine Zaa g5 ?_
       refine Zap g5 ?_
       refine Zad ?_
       refine brT g6 ?_
       refine Zae ?_
       refine Zab ?_
       refine Zad ?_
       exact congrArg (fun x=>SV.v (.i .i64) x) eN.symm
      |false=>
       refine Zae ?_
       refine Zab ?_
       refine Zal rfl (fun _=>rfl) rfl rfl rfl ?_
       iterate 3 refine Zab ?_
       refine Zaa g1 ?_
       refine Zai rfl rfl rfl g1 (fun _=>rfl) rfl rfl rfl ?_
       refine Zaa g1 ?_
       refine Zaa g1 ?_
       refine Zap g1 ?_
       refine Zab ?_
       refine Zaa g2 ?_
       refine Zai rfl rfl rfl g2 (fun _=>rfl) rfl rfl rfl ?_
       refine Zaa g2 ?_
       refine Zaa g2 ?_
       refine Zap g2 ?_
       refine Zab ?_
       refine Zaa g3 ?_
       refine Zai rfl rfl rfl g3 (fun _=>rfl) rfl rfl rfl ?_
       refine Zaa g3 ?_
       refine Zaa g3 ?_
       refine Zap g3 ?_
       refine Zab ?_
       refine Zaa g4 ?_
       refine Zai rfl rfl rfl g4 (fun _=>rfl) rfl rfl rfl ?_
       refine Zaa g4 ?_
       refine Zaa g4 ?_
       refine Zap g4 ?_
       refine Zab ?_
       refine Zaa g5 ?_
       refine Zai rfl rfl rfl g5 (fun _=>rfl) rfl rfl rfl ?_
       refine Zaa g5 ?_
       refine Zaa g5 ?_
       refine Zap g5 ?_
       refine Zad ?_
       refine brF g6 ?_
       have hb:big n=false:=by rw[ZcQ,g1,g2,g3,g4,g5,g6];rfl
       have eN:=ZrY hb
       have hb':=hb
       simp only[big,Bool.or_eq_false_iff,decide_eq_false_iff_not]at hb'
       obtain⟨b1,b2,b3,b4,b5,b6⟩:=hb'
       have hI:=ZsY n hb
       have l1:=ZsJ (ZbD n) n.nodes (Zb4 n) (by omega)
       have l2:=Zth n n.nodes (Zo6 n) (by omega) (by omega) (ZqI hb) (Zs0 n)
       rw[eN]
       refine Zae ?_
       refine Zbs ?_
       refine Zad ?_
       refine Zae ?_
       iterate 2 refine Zab ?_
       refine Zad ?_
       refine Zae ?_
       refine Zab ?_
       refine Zal rfl (fun _=>rfl) rfl rfl rfl ?_
       iterate 2 refine Zab ?_
       refine Zad ?_
       refine(l1.ent ?_).through ?_
       ·refine Ent.trans (tm1:=yNo n.nodes 0) (hp1:=[.cell (ZbD n) true, .cell [.nils] true]) (Zah ⟨rfl,rfl,rfl,rfl,rfl,trivial⟩) ?_
        refine Zgx (σ:=[.is 0, .is 1, .nil]) rfl rfl ?_ ?_
        ·exact⟨⟨rfl,rfl⟩,⟨rfl,trivial,⟨rfl,rfl⟩,trivial⟩,rfl,rfl,rfl,trivial⟩
        ·exact⟨⟨⟨rfl,rfl,rfl,rfl,rfl,rfl,trivial⟩,id⟩,⟨⟨⟨rfl,rfl,rfl⟩,trivial⟩,id⟩,rfl,trivial⟩
       rintro _ tm hp' (⟨rfl,ha,hE⟩|⟨rfl,ha,hE⟩)
       ·refine⟨_,_,hE, ?_⟩
        rw[Znk ha]
        show wp _ _ _ _ _ _ _ _ _
        refine Zae ?_
        refine Zal rfl (fun _=>rfl) rfl rfl rfl ?_
        refine Zaf rfl ((hI).mono ?_)
        rintro _ rfl
        refine Zac rfl rfl ?_
        iterate 2 refine Zab ?_
        refine Zad ?_
        refine(l2.ent ?_).through ?_
        ·exact Zah ⟨rfl,rfl,rfl,rfl,rfl,trivial⟩
        rintro _ tm hp' (⟨rfl,ha,hE⟩|⟨rfl,ha,hE⟩)
        ·refine⟨_,_,hE, ?_⟩
         show wp _ _ _ _ _ _ _ _ _
         refine Zae ?_
         refine Zab ?_
         refine Zad ?_
         exact congrArg (fun x=>SV.v (.i .i64) x) ha.symm
        ·exact⟨_,_,hE,rfl⟩
       ·refine⟨_,_,hE, ?_⟩
        exact congrArg (fun x=>SV.v (.i .i64) x) (Zn1 ha).symm
end Go.Proofs.YtgmjnhiakpcpbaaGreatDoor
