/-
 (netmodel.checker).ends and netmodel.Check. (Printed by tools/gencheck.py.)
-/
import Derived.Test.YtgmjnhiakpcpbaaGreatDoorU5
set_option linter.constructorNameAsVariable false
set_option linter.unusedSimpArgs false
set_option linter.unusedVariables false
namespace Go.Proofs.YtgmjnhiakpcpbaaGreatDoor
open Go.Am Go.Tx Ne
set_option maxRecDepth 100000
theorem Znk {e f:Int} (h:e=0):ZbO e f=f:=by rw[h];rfl
theorem Zn1 {e f:Int} (h:e≠0):ZbO e f=e:=by rw[ZbO,decide_eq_false h]
theorem ZhN {α:Type} (f:α→Ne.Item) (l:List α):(l.map f).map (·.1)=l.map fun x=>(f x).1:=by rw[List.map_map];rfl
theorem Zd9 {α:Type} (f:α→Ne.Item) (nodes ks:List Txt) (l:List α) (r:List Ne.Item):ZaC nodes ks (l.map f++r)=ZbO (ZaC nodes ks (l.map f)) (ZaC nodes (ks++l.map fun x=>(f x).1) r):=by
 rw[ZkO,ZhN]
abbrev ks2 (n:Ne.Net):List Txt:=n.nodes++n.sws.map (·.1)
abbrev ks3 (n:Ne.Net):List Txt:=ks2 n++n.brs.map (·.1)
abbrev ks4 (n:Ne.Net):List Txt:=ks3 n++n.gens.map (·.1)
abbrev ks5 (n:Ne.Net):List Txt:=ks4 n++n.loads.map (·.1)
theorem Zs3 (n:Ne.Net):ZaC n.nodes (ks3 n) (n.gens.map geI++(n.loads.map loI++n.stores.map stI))=ZbO (ZaC n.nodes (ks3 n) (n.gens.map geI)) (ZbO (ZaC n.nodes (ks4 n) (n.loads.map loI)) (ZaC n.nodes (ks5 n) (n.stores.map stI))):=by
 rw[Zd9,Zd9];rfl
theorem ZtX {n:Ne.Net} (h:big n=false):ZdM n=ZbO (ZaC n.nodes [] (n.nodes.map noI)) (ZbO (ZaC n.nodes n.nodes (n.sws.map swI)) (ZbO (ZaC n.nodes (ks2 n) (n.brs.map brI)) (ZaC n.nodes (ks3 n) (n.gens.map geI++(n.loads.map loI++n.stores.map stI))))):=by
 have e:([]++n.nodes.map fun x=>(noI x).1)=n.nodes:=List.map_id' n.nodes
 rw[ZdM,h,Zo6,Zd9,e,Zd9,Zd9];rfl
theorem Zb0 {n:Ne.Net} (h:big n=true):ZdM n=2:=by rw[ZdM,h];rfl
theorem ZcQ (n:Ne.Net):big n=((decide ((n.nodes.length:Int)>(24:Int))||(decide ((n.sws.length:Int)>(32:Int))||(decide ((n.brs.length:Int)>(24:Int))||(decide ((n.gens.length:Int)>(10:Int))||(decide ((n.loads.length:Int)>(12:Int))||(decide ((n.stores.length:Int)>(4:Int))))))))):=by
 unfold big
 rw[Bool.eq_iff_iff]
 simp only[Bool.or_eq_true,decide_eq_true_eq]
 omega
def ZbD (n:Ne.Net):List SV:=[.v (.l .s) n.nodes, .v (.l Ztw) n.sws, .v (.l ZtR) n.brs, .v (.l (.p .s (.p .s (.p (.i .i64) (.p (.i .i64) (.i .i64)))))) n.gens, .v (.l (.p .s (.p .s (.i .i64)))) n.loads, .v (.l (.p .s (.p .s (.p (.i .i64) (.p (.i .i64) (.i .i64)))))) n.stores]
theorem Zb4 (n:Ne.Net):rchL (ZbD n)=[]:=rfl
def Zce (n:Ne.Net):Prop:=(∀x∈n.nodes,x.length≤9223372036854775806)∧(∀x∈n.sws,x.1.length≤9223372036854775806)∧(∀x∈n.brs,x.1.length≤9223372036854775806)∧(∀x∈n.gens,x.1.length≤9223372036854775806)∧(∀x∈n.loads,x.1.length≤9223372036854775806)∧(∀x∈n.stores,x.1.length≤9223372036854775806)
set_option maxHeartbeats 16000000 in
theorem ZtZ (n:Ne.Net) (hz:Zce n) (hb:big n=false):
 OpenOK Tryz.prog ZaO 46 [.agg [.mp 1, .v (.l .s) n.nodes], .agg (ZbD n)] (hB (ZbD n) n.nodes (ks3 n)) (fun V _=>V= .v (.i .i64) (ZaC n.nodes (ks3 n) (n.gens.map geI++(n.loads.map loI++n.stores.map stI)))):=by
 have hb':=hb
 simp only[big,Bool.or_eq_false_iff,decide_eq_false_iff_not]at hb'
 obtain⟨b1,b2,b3,b4,b5,b6⟩:=hb'
 obtain⟨z1,z2,z3,z4,z5,z6⟩:=hz
 rw[Zs3]
 refine ZfA (fn:=Tryz.f46) (code:=Zca Tryz.f46) Zaw (by kernel_rfl) Tryz.func46 (by kernel_rfl) (Nat.le_of_ble_eq_true (by kernel_rfl)) ?_
 intro base
 have l1:=Zsv (ZbD n) n.nodes (ks3 n) n.gens (Zb4 n) (by omega) (by omega) z4 base
 have l2:=ZrZ (ZbD n) n.nodes (ks4 n) n.loads (Zb4 n) (by omega) (by omega) z5 base
 have l3:=ZsZ (ZbD n) n.nodes (ks5 n) n.stores (Zb4 n) (by omega) (by omega) z6 base
 refine Zae ?_
 refine Zbs ?_
 refine Zbs ?_
 refine Zab ?_
 refine Zad ?_
 refine Zae ?_
 refine Zab ?_
 refine Zal rfl (fun _=>rfl) rfl rfl rfl ?_
 iterate 2 refine Zab ?_
 refine Zad ?_
 refine(l1.ent ?_).through ?_
 ·exact Zah ⟨rfl,rfl,rfl,rfl,rfl,trivial⟩
 rintro _ tm hp' (⟨rfl,ha,hE⟩|⟨rfl,ha,hp'',hE⟩)
 ·refine⟨_,_,hE, ?_⟩
  rw[Znk ha]
  show wp _ _ _ _ _ _ _ _ _
  refine Zae ?_
  refine Zab ?_
  refine Zal rfl (fun _=>rfl) rfl rfl rfl ?_
  iterate 2 refine Zab ?_
  refine Zad ?_
  refine(l2.ent ?_).through ?_
  ·exact Zah ⟨rfl,rfl,rfl,rfl,rfl,trivial⟩
  rintro _ tm hp' (⟨rfl,ha,hE⟩|⟨rfl,ha,hp'',hE⟩)
  ·refine⟨_,_,hE, ?_⟩
   rw[Znk ha]
   show wp _ _ _ _ _ _ _ _ _
   refine Zae ?_
   refine Zab ?_
   refine Zal rfl (fun _=>rfl) rfl rfl rfl ?_
   iterate 2 refine Zab ?_
   refine Zad ?_
   refine(l3.ent ?_).through ?_
   ·exact Zah ⟨rfl,rfl,rfl,rfl,rfl,trivial⟩
   rintro _ tm hp' (⟨rfl,ha,hE⟩|⟨rfl,ha,hp'',hE⟩)
   ·refine⟨_,_,hE, ?_⟩
    show wp _ _ _ _ _ _ _ _ _
    refine Zae ?_
    refine Zab ?_
    refine Zad ?_
    exact congrArg (fun x=>SV.v (.i .i64) x) ha.symm
   ·exact⟨_,_,hE,rfl⟩
  ·refine⟨_,_,hE, ?_⟩
   exact congrArg (fun x=>SV.v (.i .i64) x) (Zn1 ha).symm
 ·refine⟨_,_,hE, ?_⟩
  exact congrArg (fun x=>SV.v (.i .i64) x) (Zn1 ha).symm
set_option maxHeartbeats 16000000 in
theorem Zln (n:Ne.Net) (hz:Zce n):PureOK Tryz.prog ZaO 21 [.agg (ZbD n)] (fun V=>V= .v (.i .i64) (ZdM n)):=by
 refine Zaz Zaw Tryz.func21 ?_
 refine Zae ?_
 refine Zbs ?_
 refine Zab ?_
 refine Zad ?_
 cases g1:decide ((n.nodes.length:Int)>(24:Int))with
 |true=>
  have eN:ZdM n=2:=Zb0 (by rw[ZcQ,g1];simp)
  refine Zae ?_
  refine Zab ?_
  refine Zal rfl (fun _=>rfl) rfl rfl rfl ?_
  iterate 3 refine Zab ?_
  refine Zag g1 ?_
  refine Zag g1 ?_
  refine Zag g1 ?_
  refine Zag g1 ?_
  refine Zaq g1 ?_
  refine Zab ?_
  refine Zag rfl ?_
  refine Zag rfl ?_
  refine Zag rfl ?_
  refine Zag rfl ?_
  refine Zaq rfl ?_
  refine Zab ?_
  refine Zag rfl ?_
  refine Zag rfl ?_
  refine Zag rfl ?_
  refine Zag rfl ?_
  refine Zaq rfl ?_
  refine Zab ?_
  refine Zag rfl ?_
  refine Zag rfl ?_
  refine Zag rfl ?_
  refine Zag rfl ?_
  refine Zaq rfl ?_
  refine Zab ?_
  refine Zag rfl ?_
  refine Zag rfl ?_
  refine Zag rfl ?_
  refine Zag rfl ?_
  refine Zaq rfl ?_
  refine Zad ?_
  refine brT g1 ?_
  refine Zae ?_
  refine Zab ?_
  refine Zad ?_
  exact congrArg (fun x=>SV.v (.i .i64) x) eN.symm
 |false=>
  cases g2:decide ((n.sws.length:Int)>(32:Int))with
  |true=>
   have eN:ZdM n=2:=Zb0 (by rw[ZcQ,g1,g2];simp)
   refine Zae ?_
   refine Zab ?_
   refine Zal rfl (fun _=>rfl) rfl rfl rfl ?_
   iterate 3 refine Zab ?_
   refine Zaa g1 ?_
   refine Zai rfl rfl rfl g1 (fun _=>rfl) rfl rfl rfl ?_
   refine Zaa g1 ?_
   refine Zaa g1 ?_
   refine Zap g1 ?_
   refine Zab ?_
   refine Zag g2 ?_
   refine Zag g2 ?_
   refine Zag g2 ?_
   refine Zag g2 ?_
   refine Zaq g2 ?_
   refine Zab ?_
   refine Zag rfl ?_
   refine Zag rfl ?_
   refine Zag rfl ?_
   refine Zag rfl ?_
   refine Zaq rfl ?_
   refine Zab ?_
   refine Zag rfl ?_
   refine Zag rfl ?_
   refine Zag rfl ?_
   refine Zag rfl ?_
   refine Zaq rfl ?_
   refine Zab ?_
   refine Zag rfl ?_
   refine Zag rfl ?_
   refine Zag rfl ?_
   refine Zag rfl ?_
   refine Zaq rfl ?_
   refine Zad ?_
   refine brT g2 ?_
   refine Zae ?_
   refine Zab ?_
   refine Zad ?_
   exact congrArg (fun x=>SV.v (.i .i64) x) eN.symm
  |false=>
   cases g3:decide ((n.brs.length:Int)>(24:Int))with
   |true=>
    have eN:ZdM n=2:=Zb0 (by rw[ZcQ,g1,g2,g3];simp)
    refine Zae ?_
    refine Zab ?_
    refine Zal rfl (fun _=>rfl) rfl rfl rfl ?_
    iterate 3 refine Zab ?_
    refine Zaa g1 ?_
    refine Zai rfl rfl rfl g1 (fun _=>rfl) rfl rfl rfl ?_
    refine Zaa g1 ?_
    refine Zaa g1 ?_
    refine Zap g1 ?_
    refine Zab ?_
    refine Zaa g2 ?_
    refine Zai rfl rfl rfl g2 (fun _=>rfl) rfl rfl rfl ?_
    refine Zaa g2 ?_
    refine Zaa g2 ?_
    refine Zap g2 ?_
    refine Zab ?_
    refine Zag g3 ?_
    refine Zag g3 ?_
    refine Zag g3 ?_
    refine Zag g3 ?_
    refine Zaq g3 ?_
    refine Zab ?_
    refine Zag rfl ?_
    refine Zag rfl ?_
    refine Zag rfl ?_
    refine Zag rfl ?_
    refine Zaq rfl ?_
    refine Zab ?_
    refine Zag rfl ?_
    refine Zag rfl ?_
    refine Zag rfl ?_
    refine Zag rfl ?_
    refine Zaq rfl ?_
    refine Zad ?_
    refine brT g3 ?_
    refine Zae ?_
    refine Zab ?_
    refine Zad ?_
    exact congrArg (fun x=>SV.v (.i .i64) x) eN.symm
   |false=>
    cases g4:decide ((n.gens.length:Int)>(10:Int))with
    |true=>
     have eN:ZdM n=2:=Zb0 (by rw[ZcQ,g1,g2,g3,g4];simp)
     refine Zae ?_
     refine Zab ?_
     refine Zal rfl (fun _=>rfl) rfl rfl rfl ?_
     iterate 3 refine Zab ?_
     refine Zaa g1 ?_
     refine Zai rfl rfl rfl g1 (fun _=>rfl) rfl rfl rfl ?_
     refine Zaa g1 ?_
     refine Zaa g1 ?_
     refine Zap g1 ?_
     refine Zab ?_
     refine Zaa g2 ?_
     refine Zai rfl rfl rfl g2 (fun _=>rfl) rfl rfl rfl ?_
     refine Zaa g2 ?_
     refine Zaa g2 ?_
     refine Zap g2 ?_
     refine Zab ?_
     refine Zaa g3 ?_
     refine Zai rfl rfl rfl g3 (fun _=>rfl) rfl rfl rfl ?_
     refine Zaa g3 ?_
     refine Zaa g3 ?_
     refine Zap g3 ?_
     refine Zab ?_
     refine Zag g4 ?_
     refine Zag g4 ?_
     refine Zag g4 ?_
     refine Zag g4 ?_
     refine Zaq g4 ?_
     refine Zab ?_
     refine Zag rfl ?_
     refine Zag rfl ?_
     refine Zag rfl ?_
     refine Zag rfl ?_
     refine Zaq rfl ?_
     refine Zad ?_
     refine brT g4 ?_
     refine Zae ?_
     refine Zab ?_
     refine Zad ?_
     exact congrArg (fun x=>SV.v (.i .i64) x) eN.symm
    |false=>
     cases g5:decide ((n.loads.length:Int)>(12:Int))with
     |true=>
      have eN:ZdM n=2:=Zb0 (by rw[ZcQ,g1,g2,g3,g4,g5];simp)
      refine Zae ?_
      refine Zab ?_
      refine Zal rfl (fun _=>rfl) rfl rfl rfl ?_
      iterate 3 refine Zab ?_
      refine Zaa g1 ?_
      refine Zai rfl rfl rfl g1 (fun _=>rfl) rfl rfl rfl ?_
      refine Zaa g1 ?_
      refine Zaa g1 ?_
      refine Zap g1 ?_
      refine Zab ?_
      refine Zaa g2 ?_
      refine Zai rfl rfl rfl g2 (fun _=>rfl) rfl rfl rfl ?_
      refine Zaa g2 ?_
      refine Zaa g2 ?_
      refine Zap g2 ?_
      refine Zab ?_
      refine Zaa g3 ?_
      refine Zai rfl rfl rfl g3 (fun _=>rfl) rfl rfl rfl ?_
      refine Zaa g3 ?_
      refine Zaa g3 ?_
      refine Zap g3 ?_
      refine Zab ?_
      refine Zaa g4 ?_
      refine Zai rfl rfl rfl g4 (fun _=>rfl) rfl rfl rfl ?_
      refine Zaa g4 ?_
      refine Zaa g4 ?_
      refine Zap g4 ?_
      refine Zab ?_
      refine Zag g5 ?_
      refine Zag g5 ?_
      refine Zag g5 ?_
      refine Zag g5 ?_
      refine Zaq g5 ?_
      refine Zad ?_
      refine brT g5 ?_
      refine Zae ?_
      refine Zab ?_
      refine Zad ?_
      exact congrArg (fun x=>SV.v (.i .i64) x) eN.symm
     |false=>
      cases g6:decide ((n.stores.length:Int)>(4:Int))with
      |true=>
       have eN:ZdM n=2:=Zb0 (by rw[ZcQ,g1,g2,g3,g4,g5,g6];simp)
       refine Zae ?_
       refine Zab ?_
       refine Zal rfl (fun _=>rfl) rfl rfl rfl ?_
       iterate 3 refine Zab ?_
       refine Zaa g1 ?_
       refine Zai rfl rfl rfl g1 (fun _=>rfl) rfl rfl rfl ?_
       refine Zaa g1 ?_
       refine Zaa g1 ?_
       refine Zap g1 ?_
       refine Zab ?_
       refine Zaa g2 ?_
       refine Zai rfl rfl rfl g2 (fun _=>rfl) rfl rfl rfl ?_
       refine Zaa g2 ?_
       refine Zaa g2 ?_
       refine Zap g2 ?_
       refine Zab ?_
       refine Zaa g3 ?_
       refine Zai rfl rfl rfl g3 (fun _=>rfl) rfl rfl rfl ?_
       refine Zaa g3 ?_
       refine Zaa g3 ?_
       refine Zap g3 ?_
       refine Zab ?_
       refine Zaa g4 ?_
       refine Zai rfl rfl rfl g4 (fun _=>rfl) rfl rfl rfl ?_
       refine Zaa g4 ?_
       refine Zaa g4 ?_
       refine Zap g4 ?_
       refine Zab ?_
       refine Zaa g5 ?_
       refine Zai rfl rfl rfl g5 (fun _=>rfl) rfl rfl rfl ?_
       refine Zaa g5 ?_
       refine Zaa g5 ?_
       refine Zap g5 ?_
       refine Zad ?_
       refine brT g6 ?_
       refine Zae ?_
       refine Zab ?_
       refine Zad ?_
       exact congrArg (fun x=>SV.v (.i .i64) x) eN.symm
      |false=>
       refine Zae ?_
       refine Zab ?_
       refine Zal rfl (fun _=>rfl) rfl rfl rfl ?_
       iterate 3 refine Zab ?_
       refine Zaa g1 ?_
       refine Zai rfl rfl rfl g1 (fun _=>rfl) rfl rfl rfl ?_
       refine Zaa g1 ?_
       refine Zaa g1 ?_
       refine Zap g1 ?_
       refine Zab ?_
       refine Zaa g2 ?_
       refine Zai rfl rfl rfl g2 (fun _=>rfl) rfl rfl rfl ?_
       refine Zaa g2 ?_
       refine Zaa g2 ?_
       refine Zap g2 ?_
       refine Zab ?_
       refine Zaa g3 ?_
       refine Zai rfl rfl rfl g3 (fun _=>rfl) rfl rfl rfl ?_
       refine Zaa g3 ?_
       refine Zaa g3 ?_
       refine Zap g3 ?_
       refine Zab ?_
       refine Zaa g4 ?_
       refine Zai rfl rfl rfl g4 (fun _=>rfl) rfl rfl rfl ?_
       refine Zaa g4 ?_
       refine Zaa g4 ?_
       refine Zap g4 ?_
       refine Zab ?_
       refine Zaa g5 ?_
       refine Zai rfl rfl rfl g5 (fun _=>rfl) rfl rfl rfl ?_
       refine Zaa g5 ?_
       refine Zaa g5 ?_
       refine Zap g5 ?_
       refine Zad ?_
       refine brF g6 ?_
       have hb:big n=false:=by rw[ZcQ,g1,g2,g3,g4,g5,g6];rfl
       have eN:=ZtX hb
       have hX:=ZtZ n hz hb
       have hb':=hb
       simp only[big,Bool.or_eq_false_iff,decide_eq_false_iff_not]at hb'
       obtain⟨b1,b2,b3,b4,b5,b6⟩:=hb'
       obtain⟨z1,z2,z3,z4,z5,z6⟩:=hz
       have l1:=Ztm (ZbD n) n.nodes (Zb4 n) (by omega) z1
       have l2:=Zsp (ZbD n) n.nodes n.nodes n.sws (Zb4 n) (by omega) (by omega) z2
       have l3:=Zsq (ZbD n) n.nodes (ks2 n) n.brs (Zb4 n) (by omega) (by omega) z3
       rw[eN]
       refine Zae ?_
       refine Zbs ?_
       refine Zab ?_
       refine Zal rfl (fun _=>rfl) rfl rfl rfl ?_
       refine Zab ?_
       refine Zbs ?_
       refine Zaf rfl (ZaM rfl rfl rfl rfl rfl rfl rfl rfl ?_)
       refine ZaI rfl ?_
       refine Zad ?_
       refine Zae ?_
       refine Zab ?_
       refine Zal rfl (fun _=>rfl) rfl rfl rfl ?_
       iterate 2 refine Zab ?_
       refine Zad ?_
       refine(l1.ent ?_).through ?_
       ·exact Zah ⟨rfl,rfl,rfl,rfl,rfl,trivial⟩
       rintro _ tm hp' (⟨rfl,ha,hE⟩|⟨rfl,ha,hE⟩)
       ·refine⟨_,_,hE, ?_⟩
        rw[Znk ha]
        show wp _ _ _ _ _ _ _ _ _
        refine Zae ?_
        refine Zab ?_
        refine Zal rfl (fun _=>rfl) rfl rfl rfl ?_
        iterate 2 refine Zab ?_
        refine Zad ?_
        refine(l2.ent ?_).through ?_
        ·exact Zah ⟨rfl,rfl,rfl,rfl,rfl,trivial⟩
        rintro _ tm hp' (⟨rfl,ha,hE⟩|⟨rfl,ha,hE⟩)
        ·refine⟨_,_,hE, ?_⟩
         rw[Znk ha]
         show wp _ _ _ _ _ _ _ _ _
         refine Zae ?_
         refine Zab ?_
         refine Zal rfl (fun _=>rfl) rfl rfl rfl ?_
         iterate 2 refine Zab ?_
         refine Zad ?_
         refine(l3.ent ?_).through ?_
         ·exact Zah ⟨rfl,rfl,rfl,rfl,rfl,trivial⟩
         rintro _ tm hp' (⟨rfl,ha,hE⟩|⟨rfl,ha,hE⟩)
         ·refine⟨_,_,hE, ?_⟩
          rw[Znk ha]
          show wp _ _ _ _ _ _ _ _ _
          refine Zae ?_
          refine Zal rfl (fun _=>rfl) rfl rfl rfl ?_
          refine Zal rfl (fun _=>rfl) rfl rfl rfl ?_
          refine Zaf rfl ((hX.mono ?_))
          rintro _ hp' rfl
          refine Zac rfl rfl ?_
          refine Zab ?_
          refine Zad ?_
          rfl
         ·refine⟨_,_,hE, ?_⟩
          exact congrArg (fun x=>SV.v (.i .i64) x) (Zn1 ha).symm
        ·refine⟨_,_,hE, ?_⟩
         exact congrArg (fun x=>SV.v (.i .i64) x) (Zn1 ha).symm
       ·refine⟨_,_,hE, ?_⟩
        exact congrArg (fun x=>SV.v (.i .i64) x) (Zn1 ha).symm
end Go.Proofs.YtgmjnhiakpcpbaaGreatDoor
