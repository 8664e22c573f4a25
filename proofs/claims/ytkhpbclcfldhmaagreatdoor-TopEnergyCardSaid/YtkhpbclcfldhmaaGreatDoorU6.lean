/-
 (netmodel.checker).ends and netmodel.Check. (Printed by tools/gencheck.py.)
-/
import Derived.Test.YtkhpbclcfldhmaaGreatDoorU5
set_option linter.constructorNameAsVariable false
set_option linter.unusedSimpArgs false
set_option linter.unusedVariables false
namespace Go.Proofs.YtkhpbclcfldhmaaGreatDoor
open Go.Am Go.Tx Ne
set_option maxRecDepth 100000
theorem ZrS {e f:Int} (h:e=0):Zcy e f=f:=by rw[h];rfl
theorem ZrO {e f:Int} (h:e≠0):Zcy e f=e:=by rw[Zcy,decide_eq_false h]
theorem Zjc {α:Type} (f:α→Ne.Item) (l:List α):(l.map f).map (·.1)=l.map fun x=>(f x).1:=by rw[List.map_map];rfl
theorem Zgh {α:Type} (f:α→Ne.Item) (nodes ks:List Txt) (l:List α) (r:List Ne.Item):ZaN nodes ks (l.map f++r)=Zcy (ZaN nodes ks (l.map f)) (ZaN nodes (ks++l.map fun x=>(f x).1) r):=by
 rw[ZlA,Zjc]
abbrev ks2 (n:Ne.Net):List Txt:=n.nodes++n.sws.map (·.1)
abbrev ks3 (n:Ne.Net):List Txt:=ks2 n++n.brs.map (·.1)
abbrev ks4 (n:Ne.Net):List Txt:=ks3 n++n.gens.map (·.1)
abbrev ks5 (n:Ne.Net):List Txt:=ks4 n++n.loads.map (·.1)
theorem ZwX (n:Ne.Net):ZaN n.nodes (ks3 n) (n.gens.map geI++(n.loads.map loI++n.stores.map stI))=Zcy (ZaN n.nodes (ks3 n) (n.gens.map geI)) (Zcy (ZaN n.nodes (ks4 n) (n.loads.map loI)) (ZaN n.nodes (ks5 n) (n.stores.map stI))):=by
 rw[Zgh,Zgh];rfl
theorem Zx9 {n:Ne.Net} (h:big n=false):ZgW n=Zcy (ZaN n.nodes [] (n.nodes.map noI)) (Zcy (ZaN n.nodes n.nodes (n.sws.map swI)) (Zcy (ZaN n.nodes (ks2 n) (n.brs.map brI)) (ZaN n.nodes (ks3 n) (n.gens.map geI++(n.loads.map loI++n.stores.map stI))))):=by
 have e:([]++n.nodes.map fun x=>(noI x).1)=n.nodes:=List.map_id' n.nodes
 rw[ZgW,h,ZyK,Zgh,e,Zgh,Zgh];rfl
theorem Zgs {n:Ne.Net} (h:big n=true):ZgW n=2:=by rw[ZgW,h];rfl
theorem Zip (n:Ne.Net):big n=((decide ((n.nodes.length:Int)>(24:Int))||(decide ((n.sws.length:Int)>(32:Int))||(decide ((n.brs.length:Int)>(24:Int))||(decide ((n.gens.length:Int)>(10:Int))||(decide ((n.loads.length:Int)>(12:Int))||(decide ((n.stores.length:Int)>(4:Int))))))))):=by
 unfold big
 rw[Bool.eq_iff_iff]
 simp only[Bool.or_eq_true,decide_eq_true_eq]
 omega
def ZgL (n:Ne.Net):List SV:=[.v (.l .s) n.nodes, .v (.l Zvr) n.sws, .v (.l Zys) n.brs, .v (.l (.p .s (.p .s (.p (.i .i64) (.p (.i .i64) (.i .i64)))))) n.gens, .v (.l (.p .s (.p .s (.i .i64)))) n.loads, .v (.l (.p .s (.p .s (.p (.i .i64) (.p (.i .i64) (.i .i64)))))) n.stores]
theorem Ze5 (n:Ne.Net):rchL (ZgL n)=[]:=rfl
def Zdw (n:Ne.Net):Prop:=(∀x∈n.nodes,x.length≤9223372036854775806)∧(∀x∈n.sws,x.1.length≤9223372036854775806)∧(∀x∈n.brs,x.1.length≤9223372036854775806)∧(∀x∈n.gens,x.1.length≤9223372036854775806)∧(∀x∈n.loads,x.1.length≤9223372036854775806)∧(∀x∈n.stores,x.1.length≤9223372036854775806)
set_option maxHeartbeats 16000000 in
theorem Zxa (n:Ne.Net) (hz:Zdw n) (hb:big n=false):
 OpenOK Tryz.prog Zao 31 [.agg [.mp 1, .v (.l .s) n.nodes], .agg (ZgL n)] (hB (ZgL n) n.nodes (ks3 n)) (fun V _=>V= .v (.i .i64) (ZaN n.nodes (ks3 n) (n.gens.map geI++(n.loads.map loI++n.stores.map stI)))):=by
 have hb':=hb
 simp only[big,Bool.or_eq_false_iff,decide_eq_false_iff_not]at hb'
 obtain⟨b1,b2,b3,b4,b5,b6⟩:=hb'
 obtain⟨z1,z2,z3,z4,z5,z6⟩:=hz
 rw[ZwX]
 refine ZiE (fn:=Tryz.f31) (code:=Zdg Tryz.f31) Zah (by kernel_rfl) Tryz.func31 (by kernel_rfl) (Nat.le_of_ble_eq_true (by kernel_rfl)) ?_
 intro base
 have l1:=ZwE (ZgL n) n.nodes (ks3 n) n.gens (Ze5 n) (by omega) (by omega) z4 base
 have l2:=Zwi (ZgL n) n.nodes (ks4 n) n.loads (Ze5 n) (by omega) (by omega) z5 base
 have l3:=Zwx (ZgL n) n.nodes (ks5 n) n.stores (Ze5 n) (by omega) (by omega) z6 base
 refine Zag ?_
 refine Zbq ?_
 refine Zbq ?_
 refine Zab ?_
 refine Zaf ?_
 refine Zag ?_
 refine Zab ?_
 refine Zak rfl (fun _=>rfl) rfl rfl rfl ?_
 iterate 2 refine Zab ?_
 refine Zaf ?_
 refine(l1.ent ?_).through ?_
 ·exact Zaq ⟨rfl,rfl,rfl,rfl,rfl,trivial⟩
 rintro _ tm hp' (⟨rfl,ha,hE⟩|⟨rfl,ha,hp'',hE⟩)
 ·refine⟨_,_,hE, ?_⟩
  rw[ZrS ha]
  show wp _ _ _ _ _ _ _ _ _
  refine Zag ?_
  refine Zab ?_
  refine Zak rfl (fun _=>rfl) rfl rfl rfl ?_
  iterate 2 refine Zab ?_
  refine Zaf ?_
  refine(l2.ent ?_).through ?_
  ·exact Zaq ⟨rfl,rfl,rfl,rfl,rfl,trivial⟩
  rintro _ tm hp' (⟨rfl,ha,hE⟩|⟨rfl,ha,hp'',hE⟩)
  ·refine⟨_,_,hE, ?_⟩
   rw[ZrS ha]
   show wp _ _ _ _ _ _ _ _ _
   refine Zag ?_
   refine Zab ?_
   refine Zak rfl (fun _=>rfl) rfl rfl rfl ?_
   iterate 2 refine Zab ?_
   refine Zaf ?_
   refine(l3.ent ?_).through ?_
   ·exact Zaq ⟨rfl,rfl,rfl,rfl,rfl,trivial⟩
   rintro _ tm hp' (⟨rfl,ha,hE⟩|⟨rfl,ha,hp'',hE⟩)
   ·refine⟨_,_,hE, ?_⟩
    show wp _ _ _ _ _ _ _ _ _
    refine Zag ?_
    refine Zab ?_
    refine Zaf ?_
    exact congrArg (fun x=>SV.v (.i .i64) x) ha.symm
   ·exact⟨_,_,hE,rfl⟩
  ·refine⟨_,_,hE, ?_⟩
   exact congrArg (fun x=>SV.v (.i .i64) x) (ZrO ha).symm
 ·refine⟨_,_,hE, ?_⟩
  exact congrArg (fun x=>SV.v (.i .i64) x) (ZrO ha).symm
set_option maxHeartbeats 16000000 in
theorem Zk1 (n:Ne.Net) (hz:Zdw n):PureOK Tryz.prog Zao 14 [.agg (ZgL n)] (fun V=>V= .v (.i .i64) (ZgW n)):=by
 refine Zae Zah Tryz.func14 ?_
 refine Zag ?_
 refine Zbq ?_
 refine Zab ?_
 refine Zaf ?_
 cases g1:decide ((n.nodes.length:Int)>(24:Int))with
 |true=>
  have eN:ZgW n=2:=Zgs (by rw[Zip,g1];simp)
  refine Zag ?_
  refine Zab ?_
  refine Zak rfl (fun _=>rfl) rfl rfl rfl ?_
  iterate 3 refine Zab ?_
  refine Zap g1 ?_
  refine Zap g1 ?_
  refine Zap g1 ?_
  refine Zap g1 ?_
  refine ZaK g1 ?_
  refine Zab ?_
  refine Zap rfl ?_
  refine Zap rfl ?_
  refine Zap rfl ?_
  refine Zap rfl ?_
  refine ZaK rfl ?_
  refine Zab ?_
  refine Zap rfl ?_
  refine Zap rfl ?_
  refine Zap rfl ?_
  refine Zap rfl ?_
  refine ZaK rfl ?_
  refine Zab ?_
  refine Zap rfl ?_
  refine Zap rfl ?_
  refine Zap rfl ?_
  refine Zap rfl ?_
  refine ZaK rfl ?_
  refine Zab ?_
  refine Zap rfl ?_
  refine Zap rfl ?_
  refine Zap rfl ?_
  refine Zap rfl ?_
  refine ZaK rfl ?_
  refine Zaf ?_
  refine brT g1 ?_
  refine Zag ?_
  refine Zab ?_
  refine Zaf ?_
  exact congrArg (fun x=>SV.v (.i .i64) x) eN.symm
 |false=>
  cases g2:decide ((n.sws.length:Int)>(32:Int))with
  |true=>
   have eN:ZgW n=2:=Zgs (by rw[Zip,g1,g2];simp)
   refine Zag ?_
   refine Zab ?_
   refine Zak rfl (fun _=>rfl) rfl rfl rfl ?_
   iterate 3 refine Zab ?_
   refine Zac g1 ?_
   refine Zam rfl rfl rfl g1 (fun _=>rfl) rfl rfl rfl ?_
   refine Zac g1 ?_
   refine Zac g1 ?_
   refine Zat g1 ?_
   refine Zab ?_
   refine Zap g2 ?_
   refine Zap g2 ?_
   refine Zap g2 ?_
   refine Zap g2 ?_
   refine ZaK g2 ?_
   refine Zab ?_
   refine Zap rfl ?_
   refine Zap rfl ?_
   refine Zap rfl ?_
   refine Zap rfl ?_
   refine ZaK rfl ?_
   refine Zab ?_
   refine Zap rfl ?_
   refine Zap rfl ?_
   refine Zap rfl ?_
   refine Zap rfl ?_
   refine ZaK rfl ?_
   refine Zab ?_
   refine Zap rfl ?_
   refine Zap rfl ?_
   refine Zap rfl ?_
   refine Zap rfl ?_
   refine ZaK rfl ?_
   refine Zaf ?_
   refine brT g2 ?_
   refine Zag ?_
   refine Zab ?_
   refine Zaf ?_
   exact congrArg (fun x=>SV.v (.i .i64) x) eN.symm
  |false=>
   cases g3:decide ((n.brs.length:Int)>(24:Int))with
   |true=>
    have eN:ZgW n=2:=Zgs (by rw[Zip,g1,g2,g3];simp)
    refine Zag ?_
    refine Zab ?_
    refine Zak rfl (fun _=>rfl) rfl rfl rfl ?_
    iterate 3 refine Zab ?_
    refine Zac g1 ?_
    refine Zam rfl rfl rfl g1 (fun _=>rfl) rfl rfl rfl ?_
    refine Zac g1 ?_
    refine Zac g1 ?_
    refine Zat g1 ?_
    refine Zab ?_
    refine Zac g2 ?_
    refine Zam rfl rfl rfl g2 (fun _=>rfl) rfl rfl rfl ?_
    refine Zac g2 ?_
    refine Zac g2 ?_
    refine Zat g2 ?_
    refine Zab ?_
    refine Zap g3 ?_
    refine Zap g3 ?_
    refine Zap g3 ?_
    refine Zap g3 ?_
    refine ZaK g3 ?_
    refine Zab ?_
    refine Zap rfl ?_
    refine Zap rfl ?_
    refine Zap rfl ?_
    refine Zap rfl ?_
    refine ZaK rfl ?_
    refine Zab ?_
    refine Zap rfl ?_
    refine Zap rfl ?_
    refine Zap rfl ?_
    refine Zap rfl ?_
    refine ZaK rfl ?_
    refine Zaf ?_
    refine brT g3 ?_
    refine Zag ?_
    refine Zab ?_
    refine Zaf ?_
    exact congrArg (fun x=>SV.v (.i .i64) x) eN.symm
   |false=>
    cases g4:decide ((n.gens.length:Int)>(10:Int))with
    |true=>
     have eN:ZgW n=2:=Zgs (by rw[Zip,g1,g2,g3,g4];simp)
     refine Zag ?_
     refine Zab ?_
     refine Zak rfl (fun _=>rfl) rfl rfl rfl ?_
     iterate 3 refine Zab ?_
     refine Zac g1 ?_
     refine Zam rfl rfl rfl g1 (fun _=>rfl) rfl rfl rfl ?_
     refine Zac g1 ?_
     refine Zac g1 ?_
     refine Zat g1 ?_
     refine Zab ?_
     refine Zac g2 ?_
     refine Zam rfl rfl rfl g2 (fun _=>rfl) rfl rfl rfl ?_
     refine Zac g2 ?_
     refine Zac g2 ?_
     refine Zat g2 ?_
     refine Zab ?_
     refine Zac g3 ?_
     refine Zam rfl rfl rfl g3 (fun _=>rfl) rfl rfl rfl ?_
     refine Zac g3 ?_
     refine Zac g3 ?_
     refine Zat g3 ?_
     refine Zab ?_
     refine Zap g4 ?_
     refine Zap g4 ?_
     refine Zap g4 ?_
     refine Zap g4 ?_
     refine ZaK g4 ?_
     refine Zab ?_
     refine Zap rfl ?_
     refine Zap rfl ?_
     refine Zap rfl ?_
     refine Zap rfl ?_
     refine ZaK rfl ?_
     refine Zaf ?_
     refine brT g4 ?_
     refine Zag ?_
     refine Zab ?_
     refine Zaf ?_
     exact congrArg (fun x=>SV.v (.i .i64) x) eN.symm
    |false=>
     cases g5:decide ((n.loads.length:Int)>(12:Int))with
     |true=>
      have eN:ZgW n=2:=Zgs (by rw[Zip,g1,g2,g3,g4,g5];simp)
      refine Zag ?_
      refine Zab ?_
      refine Zak rfl (fun _=>rfl) rfl rfl rfl ?_
      iterate 3 refine Zab ?_
      refine Zac g1 ?_
      refine Zam rfl rfl rfl g1 (fun _=>rfl) rfl rfl rfl ?_
      refine Zac g1 ?_
      refine Zac g1 ?_
      refine Zat g1 ?_
      refine Zab ?_
      refine Zac g2 ?_
      refine Zam rfl rfl rfl g2 (fun _=>rfl) rfl rfl rfl ?_
      refine Zac g2 ?_
      refine Zac g2 ?_
      refine Zat g2 ?_
      refine Zab ?_
      refine Zac g3 ?_
      refine Zam rfl rfl rfl g3 (fun _=>rfl) rfl rfl rfl ?_
      refine Zac g3 ?_
      refine Zac g3 ?_
      refine Zat g3 ?_
      refine Zab ?_
      refine Zac g4 ?_
      refine Zam rfl rfl rfl g4 (fun _=>rfl) rfl rfl rfl ?_
      refine Zac g4 ?_
      refine Zac g4 ?_
      refine Zat g4 ?_
      refine Zab ?_
      refine Zap g5 ?_
      refine Zap g5 ?_
      refine Zap g5 ?_
      refine Zap g5 ?_
      refine ZaK g5 ?_
      refine Zaf ?_
      refine brT g5 ?_
      refine Zag ?_
      refine Zab ?_
      refine Zaf ?_
      exact congrArg (fun x=>SV.v (.i .i64) x) eN.symm
     |false=>
      cases g6:decide ((n.stores.length:Int)>(4:Int))with
      |true=>
       have eN:ZgW n=2:=Zgs (by rw[Zip,g1,g2,g3,g4,g5,g6];simp)
       refine Zag ?_
       refine Zab ?_
       refine Zak rfl (fun _=>rfl) rfl rfl rfl ?_
       iterate 3 refine Zab ?_
       refine Zac g1 ?_
       refine Zam rfl rfl rfl g1 (fun _=>rfl) rfl rfl rfl ?_
       refine Zac g1 ?_
       refine Zac g1 ?_
       refine Zat g1 ?_
       refine Zab ?_
       refine Zac g2 ?_
       refine Zam rfl rfl rfl g2 (fun _=>rfl) rfl rfl rfl ?_
       refine Zac g2 ?_
       refine Zac g2 ?_
       refine Zat g2 ?_
       refine Zab ?_
       refine Zac g3 ?_
       refine Zam rfl rfl rfl g3 (fun _=>rfl) rfl rfl rfl ?_
       refine Zac g3 ?_
       refine Zac g3 ?_
       refine Zat g3 ?_
       refine Zab ?_
       refine Zac g4 ?_
       refine Zam rfl rfl rfl g4 (fun _=>rfl) rfl rfl rfl ?_
       refine Zac g4 ?_
       refine Zac g4 ?_
       refine Zat g4 ?_
       refine Zab ?_
       refine Zac g5 ?_
       refine Zam rfl rfl rfl g5 (fun _=>rfl) rfl rfl rfl ?_
       refine Zac g5 ?_
       refine Zac g5 ?_
       refine Zat g5 ?_
       refine Zaf ?_
       refine brT g6 ?_
       refine Zag ?_
       refine Zab ?_
       refine Zaf ?_
       exact congrArg (fun x=>SV.v (.i .i64) x) eN.symm
      |false=>
       refine Zag ?_
       refine Zab ?_
       refine Zak rfl (fun _=>rfl) rfl rfl rfl ?_
       iterate 3 refine Zab ?_
       refine Zac g1 ?_
       refine Zam rfl rfl rfl g1 (fun _=>rfl) rfl rfl rfl ?_
       refine Zac g1 ?_
       refine Zac g1 ?_
       refine Zat g1 ?_
       refine Zab ?_
       refine Zac g2 ?_
       refine Zam rfl rfl rfl g2 (fun _=>rfl) rfl rfl rfl ?_
       refine Zac g2 ?_
       refine Zac g2 ?_
       refine Zat g2 ?_
       refine Zab ?_
       refine Zac g3 ?_
       refine Zam rfl rfl rfl g3 (fun _=>rfl) rfl rfl rfl ?_
       refine Zac g3 ?_
       refine Zac g3 ?_
       refine Zat g3 ?_
       refine Zab ?_
       refine Zac g4 ?_
       refine Zam rfl rfl rfl g4 (fun _=>rfl) rfl rfl rfl ?_
       refine Zac g4 ?_
       refine Zac g4 ?_
       refine Zat g4 ?_
       refine Zab ?_
       refine Zac g5 ?_
       refine Zam rfl rfl rfl g5 (fun _=>rfl) rfl rfl rfl ?_
       refine Zac g5 ?_
       refine Zac g5 ?_
       refine Zat g5 ?_
       refine Zaf ?_
       refine brF g6 ?_
       have hb:big n=false:=by rw[Zip,g1,g2,g3,g4,g5,g6];rfl
       have eN:=Zx9 hb
       have hX:=Zxa n hz hb
       have hb':=hb
       simp only[big,Bool.or_eq_false_iff,decide_eq_false_iff_not]at hb'
       obtain⟨b1,b2,b3,b4,b5,b6⟩:=hb'
       obtain⟨z1,z2,z3,z4,z5,z6⟩:=hz
       have l1:=ZvQ (ZgL n) n.nodes (Ze5 n) (by omega) z1
       have l2:=ZwY (ZgL n) n.nodes n.nodes n.sws (Ze5 n) (by omega) (by omega) z2
       have l3:=ZvA (ZgL n) n.nodes (ks2 n) n.brs (Ze5 n) (by omega) (by omega) z3
       rw[eN]
       refine Zag ?_
       refine Zbq ?_
       refine Zab ?_
       refine Zak rfl (fun _=>rfl) rfl rfl rfl ?_
       refine Zab ?_
       refine Zbq ?_
       refine Zad rfl (Zax rfl rfl rfl rfl rfl rfl rfl rfl ?_)
       refine Zau rfl ?_
       refine Zaf ?_
       refine Zag ?_
       refine Zab ?_
       refine Zak rfl (fun _=>rfl) rfl rfl rfl ?_
       iterate 2 refine Zab ?_
       refine Zaf ?_
       refine(l1.ent ?_).through ?_
       ·exact Zaq ⟨rfl,rfl,rfl,rfl,rfl,trivial⟩
       rintro _ tm hp' (⟨rfl,ha,hE⟩|⟨rfl,ha,hE⟩)
       ·refine⟨_,_,hE, ?_⟩
        rw[ZrS ha]
        show wp _ _ _ _ _ _ _ _ _
        refine Zag ?_
        refine Zab ?_
        refine Zak rfl (fun _=>rfl) rfl rfl rfl ?_
        iterate 2 refine Zab ?_
        refine Zaf ?_
        refine(l2.ent ?_).through ?_
        ·exact Zaq ⟨rfl,rfl,rfl,rfl,rfl,trivial⟩
        rintro _ tm hp' (⟨rfl,ha,hE⟩|⟨rfl,ha,hE⟩)
        ·refine⟨_,_,hE, ?_⟩
         rw[ZrS ha]
         show wp _ _ _ _ _ _ _ _ _
         refine Zag ?_
         refine Zab ?_
         refine Zak rfl (fun _=>rfl) rfl rfl rfl ?_
         iterate 2 refine Zab ?_
         refine Zaf ?_
         refine(l3.ent ?_).through ?_
         ·exact Zaq ⟨rfl,rfl,rfl,rfl,rfl,trivial⟩
         rintro _ tm hp' (⟨rfl,ha,hE⟩|⟨rfl,ha,hE⟩)
         ·refine⟨_,_,hE, ?_⟩
          rw[ZrS ha]
          show wp _ _ _ _ _ _ _ _ _
          refine Zag ?_
          refine Zak rfl (fun _=>rfl) rfl rfl rfl ?_
          refine Zak rfl (fun _=>rfl) rfl rfl rfl ?_
          refine Zad rfl ((hX.mono ?_))
          rintro _ hp' rfl
          refine Zaa rfl rfl ?_
          refine Zab ?_
          refine Zaf ?_
          rfl
         ·refine⟨_,_,hE, ?_⟩
          exact congrArg (fun x=>SV.v (.i .i64) x) (ZrO ha).symm
        ·refine⟨_,_,hE, ?_⟩
         exact congrArg (fun x=>SV.v (.i .i64) x) (ZrO ha).symm
       ·refine⟨_,_,hE, ?_⟩
        exact congrArg (fun x=>SV.v (.i .i64) x) (ZrO ha).symm
end Go.Proofs.YtkhpbclcfldhmaaGreatDoor
