/-
 (netmodel.checker).ends and netmodel.Check. (Printed by tools/gencheck.py.)
-/
import Derived.Test.YtbdkglokkepmfaaDoorU5
set_option linter.constructorNameAsVariable false
set_option linter.unusedSimpArgs false
set_option linter.unusedVariables false
namespace Go.Proofs.YtbdkglokkepmfaaDoor
open Go.Am Go.Tx Ne
set_option maxRecDepth 100000
theorem Zni {e f:Int} (h:e=0):ZbQ e f=f:=by rw[h];rfl
theorem ZnE {e f:Int} (h:e≠0):ZbQ e f=e:=by rw[ZbQ,decide_eq_false h]
theorem Zh4 {α:Type} (f:α→Ne.Item) (l:List α):(l.map f).map (·.1)=l.map fun x=>(f x).1:=by rw[List.map_map];rfl
theorem Zei {α:Type} (f:α→Ne.Item) (nodes ks:List Txt) (l:List α) (r:List Ne.Item):ZaG nodes ks (l.map f++r)=ZbQ (ZaG nodes ks (l.map f)) (ZaG nodes (ks++l.map fun x=>(f x).1) r):=by
 rw[Zkx,Zh4]
abbrev ks2 (n:Ne.Net):List Txt:=n.nodes++n.sws.map (·.1)
abbrev ks3 (n:Ne.Net):List Txt:=ks2 n++n.brs.map (·.1)
abbrev ks4 (n:Ne.Net):List Txt:=ks3 n++n.gens.map (·.1)
abbrev ks5 (n:Ne.Net):List Txt:=ks4 n++n.loads.map (·.1)
theorem Zr8 (n:Ne.Net):ZaG n.nodes (ks3 n) (n.gens.map geI++(n.loads.map loI++n.stores.map stI))=ZbQ (ZaG n.nodes (ks3 n) (n.gens.map geI)) (ZbQ (ZaG n.nodes (ks4 n) (n.loads.map loI)) (ZaG n.nodes (ks5 n) (n.stores.map stI))):=by
 rw[Zei,Zei];rfl
theorem Zuv {n:Ne.Net} (h:big n=false):ZbV n=ZbQ (ZaG n.nodes [] (n.nodes.map noI)) (ZbQ (ZaG n.nodes n.nodes (n.sws.map swI)) (ZbQ (ZaG n.nodes (ks2 n) (n.brs.map brI)) (ZaG n.nodes (ks3 n) (n.gens.map geI++(n.loads.map loI++n.stores.map stI))))):=by
 have e:([]++n.nodes.map fun x=>(noI x).1)=n.nodes:=List.map_id' n.nodes
 rw[ZbV,h,ZoE,Zei,e,Zei,Zei];rfl
theorem Zb6 {n:Ne.Net} (h:big n=true):ZbV n=2:=by rw[ZbV,h];rfl
theorem Zc0 (n:Ne.Net):big n=((decide ((n.nodes.length:Int)>(24:Int))||(decide ((n.sws.length:Int)>(32:Int))||(decide ((n.brs.length:Int)>(24:Int))||(decide ((n.gens.length:Int)>(10:Int))||(decide ((n.loads.length:Int)>(12:Int))||(decide ((n.stores.length:Int)>(4:Int))))))))):=by
 unfold big
 rw[Bool.eq_iff_iff]
 simp only[Bool.or_eq_true,decide_eq_true_eq]
 omega
def ZbB (n:Ne.Net):List SV:=[.v (.l .s) n.nodes, .v (.l ZqV) n.sws, .v (.l ZrT) n.brs, .v (.l (.p .s (.p .s (.p (.i .i64) (.p (.i .i64) (.i .i64)))))) n.gens, .v (.l (.p .s (.p .s (.i .i64)))) n.loads, .v (.l (.p .s (.p .s (.p (.i .i64) (.p (.i .i64) (.i .i64)))))) n.stores]
theorem ZbH (n:Ne.Net):rchL (ZbB n)=[]:=rfl
def Zbj (n:Ne.Net):Prop:=(∀x∈n.nodes,x.length≤9223372036854775806)∧(∀x∈n.sws,x.1.length≤9223372036854775806)∧(∀x∈n.brs,x.1.length≤9223372036854775806)∧(∀x∈n.gens,x.1.length≤9223372036854775806)∧(∀x∈n.loads,x.1.length≤9223372036854775806)∧(∀x∈n.stores,x.1.length≤9223372036854775806)
set_option maxHeartbeats 16000000 in
theorem Zup (n:Ne.Net) (hz:Zbj n) (hb:big n=false):
 OpenOK Tryd.prog Zax 30 [.agg [.mp 1, .v (.l .s) n.nodes], .agg (ZbB n)] (hB (ZbB n) n.nodes (ks3 n)) (fun V _=>V= .v (.i .i64) (ZaG n.nodes (ks3 n) (n.gens.map geI++(n.loads.map loI++n.stores.map stI)))):=by
 have hb':=hb
 simp only[big,Bool.or_eq_false_iff,decide_eq_false_iff_not]at hb'
 obtain⟨b1,b2,b3,b4,b5,b6⟩:=hb'
 obtain⟨z1,z2,z3,z4,z5,z6⟩:=hz
 rw[Zr8]
 refine Zd5 (fn:=Tryd.f30) (code:=ZgG Tryd.f30) Zaq (by kernel_rfl) Tryd.func30 (by kernel_rfl) (Nat.le_of_ble_eq_true (by kernel_rfl)) ?_
 intro base
 have l1:=ZsP (ZbB n) n.nodes (ks3 n) n.gens (ZbH n) (by omega) (by omega) z4 base
 have l2:=Zse (ZbB n) n.nodes (ks4 n) n.loads (ZbH n) (by omega) (by omega) z5 base
 have l3:=Zs3 (ZbB n) n.nodes (ks5 n) n.stores (ZbH n) (by omega) (by omega) z6 base
 refine Zae ?_
 refine ZaQ ?_
 refine ZaQ ?_
 refine Zaa ?_
 refine Zad ?_
 refine Zae ?_
 refine Zaa ?_
 refine Zag rfl (fun _=>rfl) rfl rfl rfl ?_
 iterate 2 refine Zaa ?_
 refine Zad ?_
 refine(l1.ent ?_).through ?_
 ·exact Zah ⟨rfl,rfl,rfl,rfl,rfl,trivial⟩
 rintro _ tm hp' (⟨rfl,ha,hE⟩|⟨rfl,ha,hp'',hE⟩)
 ·refine⟨_,_,hE, ?_⟩
  rw[Zni ha]
  show wp _ _ _ _ _ _ _ _ _
  refine Zae ?_
  refine Zaa ?_
  refine Zag rfl (fun _=>rfl) rfl rfl rfl ?_
  iterate 2 refine Zaa ?_
  refine Zad ?_
  refine(l2.ent ?_).through ?_
  ·exact Zah ⟨rfl,rfl,rfl,rfl,rfl,trivial⟩
  rintro _ tm hp' (⟨rfl,ha,hE⟩|⟨rfl,ha,hp'',hE⟩)
  ·refine⟨_,_,hE, ?_⟩
   rw[Zni ha]
   show wp _ _ _ _ _ _ _ _ _
   refine Zae ?_
   refine Zaa ?_
   refine Zag rfl (fun _=>rfl) rfl rfl rfl ?_
   iterate 2 refine Zaa ?_
   refine Zad ?_
   refine(l3.ent ?_).through ?_
   ·exact Zah ⟨rfl,rfl,rfl,rfl,rfl,trivial⟩
   rintro _ tm hp' (⟨rfl,ha,hE⟩|⟨rfl,ha,hp'',hE⟩)
   ·refine⟨_,_,hE, ?_⟩
    show wp _ _ _ _ _ _ _ _ _
    refine Zae ?_
    refine Zaa ?_
    refine Zad ?_
    exact congrArg (fun x=>SV.v (.i .i64) x) ha.symm
   ·exact⟨_,_,hE,rfl⟩
  ·refine⟨_,_,hE, ?_⟩
   exact congrArg (fun x=>SV.v (.i .i64) x) (ZnE ha).symm
 ·refine⟨_,_,hE, ?_⟩
  exact congrArg (fun x=>SV.v (.i .i64) x) (ZnE ha).symm
set_option maxHeartbeats 16000000 in
theorem Zjt (n:Ne.Net) (hz:Zbj n):PureOK Tryd.prog Zax 13 [.agg (ZbB n)] (fun V=>V= .v (.i .i64) (ZbV n)):=by
 refine Zav Zaq Tryd.func13 ?_
 refine Zae ?_
 refine ZaQ ?_
 refine Zaa ?_
 refine Zad ?_
 cases g1:decide ((n.nodes.length:Int)>(24:Int))with
 |true=>
  have eN:ZbV n=2:=Zb6 (by rw[Zc0,g1];simp)
  refine Zae ?_
  refine Zaa ?_
  refine Zag rfl (fun _=>rfl) rfl rfl rfl ?_
  iterate 3 refine Zaa ?_
  refine Zai g1 ?_
  refine Zai g1 ?_
  refine Zai g1 ?_
  refine Zai g1 ?_
  refine Zas g1 ?_
  refine Zaa ?_
  refine Zai rfl ?_
  refine Zai rfl ?_
  refine Zai rfl ?_
  refine Zai rfl ?_
  refine Zas rfl ?_
  refine Zaa ?_
  refine Zai rfl ?_
  refine Zai rfl ?_
  refine Zai rfl ?_
  refine Zai rfl ?_
  refine Zas rfl ?_
  refine Zaa ?_
  refine Zai rfl ?_
  refine Zai rfl ?_
  refine Zai rfl ?_
  refine Zai rfl ?_
  refine Zas rfl ?_
  refine Zaa ?_
  refine Zai rfl ?_
  refine Zai rfl ?_
  refine Zai rfl ?_
  refine Zai rfl ?_
  refine Zas rfl ?_
  refine Zad ?_
  refine brT g1 ?_
  refine Zae ?_
  refine Zaa ?_
  refine Zad ?_
  exact congrArg (fun x=>SV.v (.i .i64) x) eN.symm
 |false=>
  cases g2:decide ((n.sws.length:Int)>(32:Int))with
  |true=>
   have eN:ZbV n=2:=Zb6 (by rw[Zc0,g1,g2];simp)
   refine Zae ?_
   refine Zaa ?_
   refine Zag rfl (fun _=>rfl) rfl rfl rfl ?_
   iterate 3 refine Zaa ?_
   refine Zac g1 ?_
   refine Zal rfl rfl rfl g1 (fun _=>rfl) rfl rfl rfl ?_
   refine Zac g1 ?_
   refine Zac g1 ?_
   refine Zap g1 ?_
   refine Zaa ?_
   refine Zai g2 ?_
   refine Zai g2 ?_
   refine Zai g2 ?_
   refine Zai g2 ?_
   refine Zas g2 ?_
   refine Zaa ?_
   refine Zai rfl ?_
   refine Zai rfl ?_
   refine Zai rfl ?_
   refine Zai rfl ?_
   refine Zas rfl ?_
   refine Zaa ?_
   refine Zai rfl ?_
   refine Zai rfl ?_
   refine Zai rfl ?_
   refine Zai rfl ?_
   refine Zas rfl ?_
   refine Zaa ?_
   refine Zai rfl ?_
   refine Zai rfl ?_
   refine Zai rfl ?_
   refine Zai rfl ?_
   refine Zas rfl ?_
   refine Zad ?_
   refine brT g2 ?_
   refine Zae ?_
   refine Zaa ?_
   refine Zad ?_
   exact congrArg (fun x=>SV.v (.i .i64) x) eN.symm
  |false=>
   cases g3:decide ((n.brs.length:Int)>(24:Int))with
   |true=>
    have eN:ZbV n=2:=Zb6 (by rw[Zc0,g1,g2,g3];simp)
    refine Zae ?_
    refine Zaa ?_
    refine Zag rfl (fun _=>rfl) rfl rfl rfl ?_
    iterate 3 refine Zaa ?_
    refine Zac g1 ?_
    refine Zal rfl rfl rfl g1 (fun _=>rfl) rfl rfl rfl ?_
    refine Zac g1 ?_
    refine Zac g1 ?_
    refine Zap g1 ?_
    refine Zaa ?_
    refine Zac g2 ?_
    refine Zal rfl rfl rfl g2 (fun _=>rfl) rfl rfl rfl ?_
    refine Zac g2 ?_
    refine Zac g2 ?_
    refine Zap g2 ?_
    refine Zaa ?_
    refine Zai g3 ?_
    refine Zai g3 ?_
    refine Zai g3 ?_
    refine Zai g3 ?_
    refine Zas g3 ?_
    refine Zaa ?_
    refine Zai rfl ?_
    refine Zai rfl ?_
    refine Zai rfl ?_
    refine Zai rfl ?_
    refine Zas rfl ?_
    refine Zaa ?_
    refine Zai rfl ?_
    refine Zai rfl ?_
    refine Zai rfl ?_
    refine Zai rfl ?_
    refine Zas rfl ?_
    refine Zad ?_
    refine brT g3 ?_
    refine Zae ?_
    refine Zaa ?_
    refine Zad ?_
    exact congrArg (fun x=>SV.v (.i .i64) x) eN.symm
   |false=>
    cases g4:decide ((n.gens.length:Int)>(10:Int))with
    |true=>
     have eN:ZbV n=2:=Zb6 (by rw[Zc0,g1,g2,g3,g4];simp)
     refine Zae ?_
     refine Zaa ?_
     refine Zag rfl (fun _=>rfl) rfl rfl rfl ?_
     iterate 3 refine Zaa ?_
     refine Zac g1 ?_
     refine Zal rfl rfl rfl g1 (fun _=>rfl) rfl rfl rfl ?_
     refine Zac g1 ?_
     refine Zac g1 ?_
     refine Zap g1 ?_
     refine Zaa ?_
     refine Zac g2 ?_
     refine Zal rfl rfl rfl g2 (fun _=>rfl) rfl rfl rfl ?_
     refine Zac g2 ?_
     refine Zac g2 ?_
     refine Zap g2 ?_
     refine Zaa ?_
     refine Zac g3 ?_
     refine Zal rfl rfl rfl g3 (fun _=>rfl) rfl rfl rfl ?_
     refine Zac g3 ?_
     refine Zac g3 ?_
     refine Zap g3 ?_
     refine Zaa ?_
     refine Zai g4 ?_
     refine Zai g4 ?_
     refine Zai g4 ?_
     refine Zai g4 ?_
     refine Zas g4 ?_
     refine Zaa ?_
     refine Zai rfl ?_
     refine Zai rfl ?_
     refine Zai rfl ?_
     refine Zai rfl ?_
     refine Zas rfl ?_
     refine Zad ?_
     refine brT g4 ?_
     refine Zae ?_
     refine Zaa ?_
     refine Zad ?_
     exact congrArg (fun x=>SV.v (.i .i64) x) eN.symm
    |false=>
     cases g5:decide ((n.loads.length:Int)>(12:Int))with
     |true=>
      have eN:ZbV n=2:=Zb6 (by rw[Zc0,g1,g2,g3,g4,g5];simp)
      refine Zae ?_
      refine Zaa ?_
      refine Zag rfl (fun _=>rfl) rfl rfl rfl ?_
      iterate 3 refine Zaa ?_
      refine Zac g1 ?_
      refine Zal rfl rfl rfl g1 (fun _=>rfl) rfl rfl rfl ?_
      refine Zac g1 ?_
      refine Zac g1 ?_
      refine Zap g1 ?_
      refine Zaa ?_
      refine Zac g2 ?_
      refine Zal rfl rfl rfl g2 (fun _=>rfl) rfl rfl rfl ?_
      refine Zac g2 ?_
      refine Zac g2 ?_
      refine Zap g2 ?_
      refine Zaa ?_
      refine Zac g3 ?_
      refine Zal rfl rfl rfl g3 (fun _=>rfl) rfl rfl rfl ?_
      refine Zac g3 ?_
      refine Zac g3 ?_
      refine Zap g3 ?_
      refine Zaa ?_
      refine Zac g4 ?_
      refine Zal rfl rfl rfl g4 (fun _=>rfl) rfl rfl rfl ?_
      refine Zac g4 ?_
      refine Zac g4 ?_
      refine Zap g4 ?_
      refine Zaa ?_
      refine Zai g5 ?_
      refine Zai g5 ?_
      refine Zai g5 ?_
      refine Zai g5 ?_
      refine Zas g5 ?_
      refine Zad ?_
      refine brT g5 ?_
      refine Zae ?_
      refine Zaa ?_
      refine Zad ?_
      exact congrArg (fun x=>SV.v (.i .i64) x) eN.symm
     |false=>
      cases g6:decide ((n.stores.length:Int)>(4:Int))with
      |true=>
       have eN:ZbV n=2:=Zb6 (by rw[Zc0,g1,g2,g3,g4,g5,g6];simp)
       refine Zae ?_
       refine Zaa ?_
       refine Zag rfl (fun _=>rfl) rfl rfl rfl ?_
       iterate 3 refine Zaa ?_
       refine Zac g1 ?_
       refine Zal rfl rfl rfl g1 (fun _=>rfl) rfl rfl rfl ?_
       refine Zac g1 ?_
       refine Zac g1 ?_
       refine Zap g1 ?_
       refine Zaa ?_
       refine Zac g2 ?_
       refine Zal rfl rfl rfl g2 (fun _=>rfl) rfl rfl rfl ?_
       refine Zac g2 ?_
       refine Zac g2 ?_
       refine Zap g2 ?_
       refine Zaa ?_
       refine Zac g3 ?_
       refine Zal rfl rfl rfl g3 (fun _=>rfl) rfl rfl rfl ?_
       refine Zac g3 ?_
       refine Zac g3 ?_
       refine Zap g3 ?_
       refine Zaa ?_
       refine Zac g4 ?_
       refine Zal rfl rfl rfl g4 (fun _=>rfl) rfl rfl rfl ?_
       refine Zac g4 ?_
       refine Zac g4 ?_
       refine Zap g4 ?_
       refine Zaa ?_
       refine Zac g5 ?_
       refine Zal rfl rfl rfl g5 (fun _=>rfl) rfl rfl rfl ?_
       refine Zac g5 ?_
       refine Zac g5 ?_
       refine Zap g5 ?_
       refine Zad ?_
       refine brT g6 ?_
       refine Zae ?_
       refine Zaa ?_
       refine Zad ?_
       exact congrArg (fun x=>SV.v (.i .i64) x) eN.symm
      |false=>
       refine Zae ?_
       refine Zaa ?_
       refine Zag rfl (fun _=>rfl) rfl rfl rfl ?_
       iterate 3 refine Zaa ?_
       refine Zac g1 ?_
       refine Zal rfl rfl rfl g1 (fun _=>rfl) rfl rfl rfl ?_
       refine Zac g1 ?_
       refine Zac g1 ?_
       refine Zap g1 ?_
       refine Zaa ?_
       refine Zac g2 ?_
       refine Zal rfl rfl rfl g2 (fun _=>rfl) rfl rfl rfl ?_
       refine Zac g2 ?_
       refine Zac g2 ?_
       refine Zap g2 ?_
       refine Zaa ?_
       refine Zac g3 ?_
       refine Zal rfl rfl rfl g3 (fun _=>rfl) rfl rfl rfl ?_
       refine Zac g3 ?_
       refine Zac g3 ?_
       refine Zap g3 ?_
       refine Zaa ?_
       refine Zac g4 ?_
       refine Zal rfl rfl rfl g4 (fun _=>rfl) rfl rfl rfl ?_
       refine Zac g4 ?_
       refine Zac g4 ?_
       refine Zap g4 ?_
       refine Zaa ?_
       refine Zac g5 ?_
       refine Zal rfl rfl rfl g5 (fun _=>rfl) rfl rfl rfl ?_
       refine Zac g5 ?_
       refine Zac g5 ?_
       refine Zap g5 ?_
       refine Zad ?_
       refine brF g6 ?_
       have hb:big n=false:=by rw[Zc0,g1,g2,g3,g4,g5,g6];rfl
       have eN:=Zuv hb
       have hX:=Zup n hz hb
       have hb':=hb
       simp only[big,Bool.or_eq_false_iff,decide_eq_false_iff_not]at hb'
       obtain⟨b1,b2,b3,b4,b5,b6⟩:=hb'
       obtain⟨z1,z2,z3,z4,z5,z6⟩:=hz
       have l1:=Zsw (ZbB n) n.nodes (ZbH n) (by omega) z1
       have l2:=ZsX (ZbB n) n.nodes n.nodes n.sws (ZbH n) (by omega) (by omega) z2
       have l3:=ZsM (ZbB n) n.nodes (ks2 n) n.brs (ZbH n) (by omega) (by omega) z3
       rw[eN]
       refine Zae ?_
       refine ZaQ ?_
       refine Zaa ?_
       refine Zag rfl (fun _=>rfl) rfl rfl rfl ?_
       refine Zaa ?_
       refine ZaQ ?_
       refine Zaf rfl (Zar rfl rfl rfl rfl rfl rfl rfl rfl ?_)
       refine Zaw rfl ?_
       refine Zad ?_
       refine Zae ?_
       refine Zaa ?_
       refine Zag rfl (fun _=>rfl) rfl rfl rfl ?_
       iterate 2 refine Zaa ?_
       refine Zad ?_
       refine(l1.ent ?_).through ?_
       ·exact Zah ⟨rfl,rfl,rfl,rfl,rfl,trivial⟩
       rintro _ tm hp' (⟨rfl,ha,hE⟩|⟨rfl,ha,hE⟩)
       ·refine⟨_,_,hE, ?_⟩
        rw[Zni ha]
        show wp _ _ _ _ _ _ _ _ _
        refine Zae ?_
        refine Zaa ?_
        refine Zag rfl (fun _=>rfl) rfl rfl rfl ?_
        iterate 2 refine Zaa ?_
        refine Zad ?_
        refine(l2.ent ?_).through ?_
        ·exact Zah ⟨rfl,rfl,rfl,rfl,rfl,trivial⟩
        rintro _ tm hp' (⟨rfl,ha,hE⟩|⟨rfl,ha,hE⟩)
        ·refine⟨_,_,hE, ?_⟩
         rw[Zni ha]
         show wp _ _ _ _ _ _ _ _ _
         refine Zae ?_
         refine Zaa ?_
         refine Zag rfl (fun _=>rfl) rfl rfl rfl ?_
         iterate 2 refine Zaa ?_
         refine Zad ?_
         refine(l3.ent ?_).through ?_
         ·exact Zah ⟨rfl,rfl,rfl,rfl,rfl,trivial⟩
         rintro _ tm hp' (⟨rfl,ha,hE⟩|⟨rfl,ha,hE⟩)
         ·refine⟨_,_,hE, ?_⟩
          rw[Zni ha]
          show wp _ _ _ _ _ _ _ _ _
          refine Zae ?_
          refine Zag rfl (fun _=>rfl) rfl rfl rfl ?_
          refine Zag rfl (fun _=>rfl) rfl rfl rfl ?_
          refine Zaf rfl ((hX.mono ?_))
          rintro _ hp' rfl
          refine Zab rfl rfl ?_
          refine Zaa ?_
          refine Zad ?_
          rfl
         ·refine⟨_,_,hE, ?_⟩
          exact congrArg (fun x=>SV.v (.i .i64) x) (ZnE ha).symm
        ·refine⟨_,_,hE, ?_⟩
         exact congrArg (fun x=>SV.v (.i .i64) x) (ZnE ha).symm
       ·refine⟨_,_,hE, ?_⟩
        exact congrArg (fun x=>SV.v (.i .i64) x) (ZnE ha).symm
end Go.Proofs.YtbdkglokkepmfaaDoor
