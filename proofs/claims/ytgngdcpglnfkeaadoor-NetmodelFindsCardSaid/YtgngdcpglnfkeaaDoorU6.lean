/-
 (netmodel.checker).ends and netmodel.Check. (Printed by tools/gencheck.py.)
-/
import Derived.Test.YtgngdcpglnfkeaaDoorU5
set_option linter.constructorNameAsVariable false
set_option linter.unusedSimpArgs false
set_option linter.unusedVariables false
namespace Go.Proofs.YtgngdcpglnfkeaaDoor
open Go.Am Go.Tx Ne
set_option maxRecDepth 100000
theorem Zod {e f:Int} (h:e=0):Zb6 e f=f:=by rw[h];rfl
theorem ZoF {e f:Int} (h:e≠0):Zb6 e f=e:=by rw[Zb6,decide_eq_false h]
theorem Ziu {α:Type} (f:α→Ne.Item) (l:List α):(l.map f).map (·.1)=l.map fun x=>(f x).1:=by rw[List.map_map];rfl
theorem Zet {α:Type} (f:α→Ne.Item) (nodes ks:List Txt) (l:List α) (r:List Ne.Item):ZaG nodes ks (l.map f++r)=Zb6 (ZaG nodes ks (l.map f)) (ZaG nodes (ks++l.map fun x=>(f x).1) r):=by
 rw[ZkB,Ziu]
abbrev ks2 (n:Ne.Net):List Txt:=n.nodes++n.sws.map (·.1)
abbrev ks3 (n:Ne.Net):List Txt:=ks2 n++n.brs.map (·.1)
abbrev ks4 (n:Ne.Net):List Txt:=ks3 n++n.gens.map (·.1)
abbrev ks5 (n:Ne.Net):List Txt:=ks4 n++n.loads.map (·.1)
theorem Zuh (n:Ne.Net):ZaG n.nodes (ks3 n) (n.gens.map geI++(n.loads.map loI++n.stores.map stI))=Zb6 (ZaG n.nodes (ks3 n) (n.gens.map geI)) (Zb6 (ZaG n.nodes (ks4 n) (n.loads.map loI)) (ZaG n.nodes (ks5 n) (n.stores.map stI))):=by
 rw[Zet,Zet];rfl
theorem ZuO {n:Ne.Net} (h:big n=false):ZcK n=Zb6 (ZaG n.nodes [] (n.nodes.map noI)) (Zb6 (ZaG n.nodes n.nodes (n.sws.map swI)) (Zb6 (ZaG n.nodes (ks2 n) (n.brs.map brI)) (ZaG n.nodes (ks3 n) (n.gens.map geI++(n.loads.map loI++n.stores.map stI))))):=by
 have e:([]++n.nodes.map fun x=>(noI x).1)=n.nodes:=List.map_id' n.nodes
 rw[ZcK,h,ZjJ,Zet,e,Zet,Zet];rfl
theorem Zcc {n:Ne.Net} (h:big n=true):ZcK n=2:=by rw[ZcK,h];rfl
theorem Zc2 (n:Ne.Net):big n=((decide ((n.nodes.length:Int)>(24:Int))||(decide ((n.sws.length:Int)>(32:Int))||(decide ((n.brs.length:Int)>(24:Int))||(decide ((n.gens.length:Int)>(10:Int))||(decide ((n.loads.length:Int)>(12:Int))||(decide ((n.stores.length:Int)>(4:Int))))))))):=by
 unfold big
 rw[Bool.eq_iff_iff]
 simp only[Bool.or_eq_true,decide_eq_true_eq]
 omega
def Za2 (n:Ne.Net):List SV:=[.v (.l .s) n.nodes, .v (.l Ze6) n.sws, .v (.l Zfu) n.brs, .v (.l (.p .s (.p .s (.p (.i .i64) (.p (.i .i64) (.i .i64)))))) n.gens, .v (.l (.p .s (.p .s (.i .i64)))) n.loads, .v (.l (.p .s (.p .s (.p (.i .i64) (.p (.i .i64) (.i .i64)))))) n.stores]
theorem ZbS (n:Ne.Net):rchL (Za2 n)=[]:=rfl
def Zbi (n:Ne.Net):Prop:=(∀x∈n.nodes,x.length≤9223372036854775806)∧(∀x∈n.sws,x.1.length≤9223372036854775806)∧(∀x∈n.brs,x.1.length≤9223372036854775806)∧(∀x∈n.gens,x.1.length≤9223372036854775806)∧(∀x∈n.loads,x.1.length≤9223372036854775806)∧(∀x∈n.stores,x.1.length≤9223372036854775806)
set_option maxHeartbeats 16000000 in
theorem Zuq (n:Ne.Net) (hz:Zbi n) (hb:big n=false):
 OpenOK Tryd.prog Zaw 53 [.agg [.mp 1, .v (.l .s) n.nodes], .agg (Za2 n)] (hB (Za2 n) n.nodes (ks3 n)) (fun V _=>V= .v (.i .i64) (ZaG n.nodes (ks3 n) (n.gens.map geI++(n.loads.map loI++n.stores.map stI)))):=by
 have hb':=hb
 simp only[big,Bool.or_eq_false_iff,decide_eq_false_iff_not]at hb'
 obtain⟨b1,b2,b3,b4,b5,b6⟩:=hb'
 obtain⟨z1,z2,z3,z4,z5,z6⟩:=hz
 rw[Zuh]
 refine ZaO (fn:=Tryd.f53) (code:=Za0 Tryd.f53) Zao (by kernel_rfl) Tryd.func53 (by kernel_rfl) (Nat.le_of_ble_eq_true (by kernel_rfl)) ?_
 intro base
 have l1:=ZsP (Za2 n) n.nodes (ks3 n) n.gens (ZbS n) (by omega) (by omega) z4 base
 have l2:=ZtC (Za2 n) n.nodes (ks4 n) n.loads (ZbS n) (by omega) (by omega) z5 base
 have l3:=ZtG (Za2 n) n.nodes (ks5 n) n.stores (ZbS n) (by omega) (by omega) z6 base
 refine Zae ?_
 refine ZaR ?_
 refine ZaR ?_
 refine Zab ?_
 refine Zaf ?_
 refine Zae ?_
 refine Zab ?_
 refine Zag rfl (fun _=>rfl) rfl rfl rfl ?_
 iterate 2 refine Zab ?_
 refine Zaf ?_
 refine(l1.ent ?_).through ?_
 ·exact Zai ⟨rfl,rfl,rfl,rfl,rfl,trivial⟩
 rintro _ tm hp' (⟨rfl,ha,hE⟩|⟨rfl,ha,hp'',hE⟩)
 ·refine⟨_,_,hE, ?_⟩
  rw[Zod ha]
  show wp _ _ _ _ _ _ _ _ _
  refine Zae ?_
  refine Zab ?_
  refine Zag rfl (fun _=>rfl) rfl rfl rfl ?_
  iterate 2 refine Zab ?_
  refine Zaf ?_
  refine(l2.ent ?_).through ?_
  ·exact Zai ⟨rfl,rfl,rfl,rfl,rfl,trivial⟩
  rintro _ tm hp' (⟨rfl,ha,hE⟩|⟨rfl,ha,hp'',hE⟩)
  ·refine⟨_,_,hE, ?_⟩
   rw[Zod ha]
   show wp _ _ _ _ _ _ _ _ _
   refine Zae ?_
   refine Zab ?_
   refine Zag rfl (fun _=>rfl) rfl rfl rfl ?_
   iterate 2 refine Zab ?_
   refine Zaf ?_
   refine(l3.ent ?_).through ?_
   ·exact Zai ⟨rfl,rfl,rfl,rfl,rfl,trivial⟩
   rintro _ tm hp' (⟨rfl,ha,hE⟩|⟨rfl,ha,hp'',hE⟩)
   ·refine⟨_,_,hE, ?_⟩
    show wp _ _ _ _ _ _ _ _ _
    refine Zae ?_
    refine Zab ?_
    refine Zaf ?_
    exact congrArg (fun x=>SV.v (.i .i64) x) ha.symm
   ·exact⟨_,_,hE,rfl⟩
  ·refine⟨_,_,hE, ?_⟩
   exact congrArg (fun x=>SV.v (.i .i64) x) (ZoF ha).symm
 ·refine⟨_,_,hE, ?_⟩
  exact congrArg (fun x=>SV.v (.i .i64) x) (ZoF ha).symm
set_option maxHeartbeats 16000000 in
theorem ZpU (n:Ne.Net) (hz:Zbi n):PureOK Tryd.prog Zaw 24 [.agg (Za2 n)] (fun V=>V= .v (.i .i64) (ZcK n)):=by
 refine Zau Zao Tryd.func24 ?_
 refine Zae ?_
 refine ZaR ?_
 refine Zab ?_
 refine Zaf ?_
 cases g1:decide ((n.nodes.length:Int)>(24:Int))with
 |true=>
  have eN:ZcK n=2:=Zcc (by rw[Zc2,g1];simp)
  refine Zae ?_
  refine Zab ?_
  refine Zag rfl (fun _=>rfl) rfl rfl rfl ?_
  iterate 3 refine Zab ?_
  refine Zaj g1 ?_
  refine Zaj g1 ?_
  refine Zaj g1 ?_
  refine Zaj g1 ?_
  refine Zat g1 ?_
  refine Zab ?_
  refine Zaj rfl ?_
  refine Zaj rfl ?_
  refine Zaj rfl ?_
  refine Zaj rfl ?_
  refine Zat rfl ?_
  refine Zab ?_
  refine Zaj rfl ?_
  refine Zaj rfl ?_
  refine Zaj rfl ?_
  refine Zaj rfl ?_
  refine Zat rfl ?_
  refine Zab ?_
  refine Zaj rfl ?_
  refine Zaj rfl ?_
  refine Zaj rfl ?_
  refine Zaj rfl ?_
  refine Zat rfl ?_
  refine Zab ?_
  refine Zaj rfl ?_
  refine Zaj rfl ?_
  refine Zaj rfl ?_
  refine Zaj rfl ?_
  refine Zat rfl ?_
  refine Zaf ?_
  refine brT g1 ?_
  refine Zae ?_
  refine Zab ?_
  refine Zaf ?_
  exact congrArg (fun x=>SV.v (.i .i64) x) eN.symm
 |false=>
  cases g2:decide ((n.sws.length:Int)>(32:Int))with
  |true=>
   have eN:ZcK n=2:=Zcc (by rw[Zc2,g1,g2];simp)
   refine Zae ?_
   refine Zab ?_
   refine Zag rfl (fun _=>rfl) rfl rfl rfl ?_
   iterate 3 refine Zab ?_
   refine Zad g1 ?_
   refine Zak rfl rfl rfl g1 (fun _=>rfl) rfl rfl rfl ?_
   refine Zad g1 ?_
   refine Zad g1 ?_
   refine Zas g1 ?_
   refine Zab ?_
   refine Zaj g2 ?_
   refine Zaj g2 ?_
   refine Zaj g2 ?_
   refine Zaj g2 ?_
   refine Zat g2 ?_
   refine Zab ?_
   refine Zaj rfl ?_
   refine Zaj rfl ?_
   refine Zaj rfl ?_
   refine Zaj rfl ?_
   refine Zat rfl ?_
   refine Zab ?_
   refine Zaj rfl ?_
   refine Zaj rfl ?_
   refine Zaj rfl ?_
   refine Zaj rfl ?_
   refine Zat rfl ?_
   refine Zab ?_
   refine Zaj rfl ?_
   refine Zaj rfl ?_
   refine Zaj rfl ?_
   refine Zaj rfl ?_
   refine Zat rfl ?_
   refine Zaf ?_
   refine brT g2 ?_
   refine Zae ?_
   refine Zab ?_
   refine Zaf ?_
   exact congrArg (fun x=>SV.v (.i .i64) x) eN.symm
  |false=>
   cases g3:decide ((n.brs.length:Int)>(24:Int))with
   |true=>
    have eN:ZcK n=2:=Zcc (by rw[Zc2,g1,g2,g3];simp)
    refine Zae ?_
    refine Zab ?_
    refine Zag rfl (fun _=>rfl) rfl rfl rfl ?_
    iterate 3 refine Zab ?_
    refine Zad g1 ?_
    refine Zak rfl rfl rfl g1 (fun _=>rfl) rfl rfl rfl ?_
    refine Zad g1 ?_
    refine Zad g1 ?_
    refine Zas g1 ?_
    refine Zab ?_
    refine Zad g2 ?_
    refine Zak rfl rfl rfl g2 (fun _=>rfl) rfl rfl rfl ?_
    refine Zad g2 ?_
    refine Zad g2 ?_
    refine Zas g2 ?_
    refine Zab ?_
    refine Zaj g3 ?_
    refine Zaj g3 ?_
    refine Zaj g3 ?_
    refine Zaj g3 ?_
    refine Zat g3 ?_
    refine Zab ?_
    refine Zaj rfl ?_
    refine Zaj rfl ?_
    refine Zaj rfl ?_
    refine Zaj rfl ?_
    refine Zat rfl ?_
    refine Zab ?_
    refine Zaj rfl ?_
    refine Zaj rfl ?_
    refine Zaj rfl ?_
    refine Zaj rfl ?_
    refine Zat rfl ?_
    refine Zaf ?_
    refine brT g3 ?_
    refine Zae ?_
    refine Zab ?_
    refine Zaf ?_
    exact congrArg (fun x=>SV.v (.i .i64) x) eN.symm
   |false=>
    cases g4:decide ((n.gens.length:Int)>(10:Int))with
    |true=>
     have eN:ZcK n=2:=Zcc (by rw[Zc2,g1,g2,g3,g4];simp)
     refine Zae ?_
     refine Zab ?_
     refine Zag rfl (fun _=>rfl) rfl rfl rfl ?_
     iterate 3 refine Zab ?_
     refine Zad g1 ?_
     refine Zak rfl rfl rfl g1 (fun _=>rfl) rfl rfl rfl ?_
     refine Zad g1 ?_
     refine Zad g1 ?_
     refine Zas g1 ?_
     refine Zab ?_
     refine Zad g2 ?_
     refine Zak rfl rfl rfl g2 (fun _=>rfl) rfl rfl rfl ?_
     refine Zad g2 ?_
     refine Zad g2 ?_
     refine Zas g2 ?_
     refine Zab ?_
     refine Zad g3 ?_
     refine Zak rfl rfl rfl g3 (fun _=>rfl) rfl rfl rfl ?_
     refine Zad g3 ?_
     refine Zad g3 ?_
     refine Zas g3 ?_
     refine Zab ?_
     refine Zaj g4 ?_
     refine Zaj g4 ?_
     refine Zaj g4 ?_
     refine Zaj g4 ?_
     refine Zat g4 ?_
     refine Zab ?_
     refine Zaj rfl ?_
     refine Zaj rfl ?_
     refine Zaj rfl ?_
     refine Zaj rfl ?_
     refine Zat rfl ?_
     refine Zaf ?_
     refine brT g4 ?_
     refine Zae ?_
     refine Zab ?_
     refine Zaf ?_
     exact congrArg (fun x=>SV.v (.i .i64) x) eN.symm
    |false=>
     cases g5:decide ((n.loads.length:Int)>(12:Int))with
     |true=>
      have eN:ZcK n=2:=Zcc (by rw[Zc2,g1,g2,g3,g4,g5];simp)
      refine Zae ?_
      refine Zab ?_
      refine Zag rfl (fun _=>rfl) rfl rfl rfl ?_
      iterate 3 refine Zab ?_
      refine Zad g1 ?_
      refine Zak rfl rfl rfl g1 (fun _=>rfl) rfl rfl rfl ?_
      refine Zad g1 ?_
      refine Zad g1 ?_
      refine Zas g1 ?_
      refine Zab ?_
      refine Zad g2 ?_
      refine Zak rfl rfl rfl g2 (fun _=>rfl) rfl rfl rfl ?_
      refine Zad g2 ?_
      refine Zad g2 ?_
      refine Zas g2 ?_
      refine Zab ?_
      refine Zad g3 ?_
      refine Zak rfl rfl rfl g3 (fun _=>rfl) rfl rfl rfl ?_
      refine Zad g3 ?_
      refine Zad g3 ?_
      refine Zas g3 ?_
      refine Zab ?_
      refine Zad g4 ?_
      refine Zak rfl rfl rfl g4 (fun _=>rfl) rfl rfl rfl ?_
      refine Zad g4 ?_
      refine Zad g4 ?_
      refine Zas g4 ?_
      refine Zab ?_
      refine Zaj g5 ?_
      refine Zaj g5 ?_
      refine Zaj g5 ?_
      refine Zaj g5 ?_
      refine Zat g5 ?_
      refine Zaf ?_
      refine brT g5 ?_
      refine Zae ?_
      refine Zab ?_
      refine Zaf ?_
      exact congrArg (fun x=>SV.v (.i .i64) x) eN.symm
     |false=>
      cases g6:decide ((n.stores.length:Int)>(4:Int))with
      |true=>
       have eN:ZcK n=2:=Zcc (by rw[Zc2,g1,g2,g3,g4,g5,g6];simp)
       refine Zae ?_
       refine Zab ?_
       refine Zag rfl (fun _=>rfl) rfl rfl rfl ?_
       iterate 3 refine Zab ?_
       refine Zad g1 ?_
       refine Zak rfl rfl rfl g1 (fun _=>rfl) rfl rfl rfl ?_
       refine Zad g1 ?_
       refine Zad g1 ?_
       refine Zas g1 ?_
       refine Zab ?_
       refine Zad g2 ?_
       refine Zak rfl rfl rfl g2 (fun _=>rfl) rfl rfl rfl ?_
       refine Zad g2 ?_
       refine Zad g2 ?_
       refine Zas g2 ?_
       refine Zab ?_
       refine Zad g3 ?_
       refine Zak rfl rfl rfl g3 (fun _=>rfl) rfl rfl rfl ?_
       refine Zad g3 ?_
       refine Zad g3 ?_
       refine Zas g3 ?_
       refine Zab ?_
       refine Zad g4 ?_
       refine Zak rfl rfl rfl g4 (fun _=>rfl) rfl rfl rfl ?_
       refine Zad g4 ?_
       refine Zad g4 ?_
       refine Zas g4 ?_
       refine Zab ?_
       refine Zad g5 ?_
       refine Zak rfl rfl rfl g5 (fun _=>rfl) rfl rfl rfl ?_
       refine Zad g5 ?_
       refine Zad g5 ?_
       refine Zas g5 ?_
       refine Zaf ?_
       refine brT g6 ?_
       refine Zae ?_
       refine Zab ?_
       refine Zaf ?_
       exact congrArg (fun x=>SV.v (.i .i64) x) eN.symm
      |false=>
       refine Zae ?_
       refine Zab ?_
       refine Zag rfl (fun _=>rfl) rfl rfl rfl ?_
       iterate 3 refine Zab ?_
       refine Zad g1 ?_
       refine Zak rfl rfl rfl g1 (fun _=>rfl) rfl rfl rfl ?_
       refine Zad g1 ?_
       refine Zad g1 ?_
       refine Zas g1 ?_
       refine Zab ?_
       refine Zad g2 ?_
       refine Zak rfl rfl rfl g2 (fun _=>rfl) rfl rfl rfl ?_
       refine Zad g2 ?_
       refine Zad g2 ?_
       refine Zas g2 ?_
       refine Zab ?_
       refine Zad g3 ?_
       refine Zak rfl rfl rfl g3 (fun _=>rfl) rfl rfl rfl ?_
       refine Zad g3 ?_
       refine Zad g3 ?_
       refine Zas g3 ?_
       refine Zab ?_
       refine Zad g4 ?_
       refine Zak rfl rfl rfl g4 (fun _=>rfl) rfl rfl rfl ?_
       refine Zad g4 ?_
       refine Zad g4 ?_
       refine Zas g4 ?_
       refine Zab ?_
       refine Zad g5 ?_
       refine Zak rfl rfl rfl g5 (fun _=>rfl) rfl rfl rfl ?_
       refine Zad g5 ?_
       refine Zad g5 ?_
       refine Zas g5 ?_
       refine Zaf ?_
       refine brF g6 ?_
       have hb:big n=false:=by rw[Zc2,g1,g2,g3,g4,g5,g6];rfl
       have eN:=ZuO hb
       have hX:=Zuq n hz hb
       have hb':=hb
       simp only[big,Bool.or_eq_false_iff,decide_eq_false_iff_not]at hb'
       obtain⟨b1,b2,b3,b4,b5,b6⟩:=hb'
       obtain⟨z1,z2,z3,z4,z5,z6⟩:=hz
       have l1:=ZtH (Za2 n) n.nodes (ZbS n) (by omega) z1
       have l2:=ZtE (Za2 n) n.nodes n.nodes n.sws (ZbS n) (by omega) (by omega) z2
       have l3:=ZtP (Za2 n) n.nodes (ks2 n) n.brs (ZbS n) (by omega) (by omega) z3
       rw[eN]
       refine Zae ?_
       refine ZaR ?_
       refine Zab ?_
       refine Zag rfl (fun _=>rfl) rfl rfl rfl ?_
       refine Zab ?_
       refine ZaR ?_
       refine Zac rfl (ZaB rfl rfl rfl rfl rfl rfl rfl rfl ?_)
       refine Zar rfl ?_
       refine Zaf ?_
       refine Zae ?_
       refine Zab ?_
       refine Zag rfl (fun _=>rfl) rfl rfl rfl ?_
       iterate 2 refine Zab ?_
       refine Zaf ?_
       refine(l1.ent ?_).through ?_
       ·exact Zai ⟨rfl,rfl,rfl,rfl,rfl,trivial⟩
       rintro _ tm hp' (⟨rfl,ha,hE⟩|⟨rfl,ha,hE⟩)
       ·refine⟨_,_,hE, ?_⟩
        rw[Zod ha]
        show wp _ _ _ _ _ _ _ _ _
        refine Zae ?_
        refine Zab ?_
        refine Zag rfl (fun _=>rfl) rfl rfl rfl ?_
        iterate 2 refine Zab ?_
        refine Zaf ?_
        refine(l2.ent ?_).through ?_
        ·exact Zai ⟨rfl,rfl,rfl,rfl,rfl,trivial⟩
        rintro _ tm hp' (⟨rfl,ha,hE⟩|⟨rfl,ha,hE⟩)
        ·refine⟨_,_,hE, ?_⟩
         rw[Zod ha]
         show wp _ _ _ _ _ _ _ _ _
         refine Zae ?_
         refine Zab ?_
         refine Zag rfl (fun _=>rfl) rfl rfl rfl ?_
         iterate 2 refine Zab ?_
         refine Zaf ?_
         refine(l3.ent ?_).through ?_
         ·exact Zai ⟨rfl,rfl,rfl,rfl,rfl,trivial⟩
         rintro _ tm hp' (⟨rfl,ha,hE⟩|⟨rfl,ha,hE⟩)
         ·refine⟨_,_,hE, ?_⟩
          rw[Zod ha]
          show wp _ _ _ _ _ _ _ _ _
          refine Zae ?_
          refine Zag rfl (fun _=>rfl) rfl rfl rfl ?_
          refine Zag rfl (fun _=>rfl) rfl rfl rfl ?_
          refine Zac rfl ((hX.mono ?_))
          rintro _ hp' rfl
          refine Zaa rfl rfl ?_
          refine Zab ?_
          refine Zaf ?_
          rfl
         ·refine⟨_,_,hE, ?_⟩
          exact congrArg (fun x=>SV.v (.i .i64) x) (ZoF ha).symm
        ·refine⟨_,_,hE, ?_⟩
         exact congrArg (fun x=>SV.v (.i .i64) x) (ZoF ha).symm
       ·refine⟨_,_,hE, ?_⟩
        exact congrArg (fun x=>SV.v (.i .i64) x) (ZoF ha).symm
end Go.Proofs.YtgngdcpglnfkeaaDoor
