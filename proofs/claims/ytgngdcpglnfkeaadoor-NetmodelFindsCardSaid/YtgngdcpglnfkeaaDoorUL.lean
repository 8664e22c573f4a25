/-
 The reference's NetLines.
-/
import Derived.Test.YtgngdcpglnfkeaaDoorUK
set_option linter.constructorNameAsVariable false
set_option linter.unusedSimpArgs false
set_option linter.unusedVariables false
namespace Go.Proofs.YtgngdcpglnfkeaaDoor
open Go.Am Go.Tx Ne
set_option maxRecDepth 100000
def ZaE (n:Ne.Net):List Txt:=[]++n.nodes.map Za3++n.sws.map Zbe++n.brs.map Zbl++n.gens.map Zbr++n.loads.map ZbB++n.stores.map ZbE
def Zi9 (n:Ne.Net):Prop:=(∀x∈n.nodes,x.length≤1000)∧(∀x∈n.sws,x.1.length≤1000∧x.2.1.length≤1000∧x.2.2.1.length≤1000)∧(∀x∈n.brs,Zss (ZgK x) (Zfp x))∧(∀x∈n.gens,Zss (ZgF x) (ZfM x))∧(∀x∈n.loads,Zss (Zgx x) (Zf6 x))∧(∀x∈n.stores,Zss (ZgI x) (ZfF x))
set_option maxHeartbeats 16000000 in
theorem Zgm (n:Ne.Net) (hb:big n=false) (hf:Zi9 n):PureOK Tryd.prog Zaw 10 [.agg (Za2 n)] (fun V=>V= .v (.l .s) (ZaE n)):=by
 refine Zau Zao Tryd.func10 ?_
 simp only[big,Bool.or_eq_false_iff,decide_eq_false_iff_not]at hb
 obtain⟨b1,b2,b3,b4,b5,b6⟩:=hb
 obtain⟨f1,f2,f3,f4,f5,f6⟩:=hf
 have hr:=ZbS n
 have l1:=ZrX (Za2 n) [] n.nodes hr (Nat.zero_le _) (by omega) f1
 have l2:=Zsg (Za2 n) ([]++n.nodes.map Za3) n.sws hr (by simp only[List.length_append,List.length_map,List.length_nil];omega) (by omega) f2
 have l3:=Zse (Za2 n) ([]++n.nodes.map Za3++n.sws.map Zbe) n.brs hr (by simp only[List.length_append,List.length_map,List.length_nil];omega) (by omega) f3
 have l4:=Zrs (Za2 n) ([]++n.nodes.map Za3++n.sws.map Zbe++n.brs.map Zbl) n.gens hr (by simp only[List.length_append,List.length_map,List.length_nil];omega) (by omega) f4
 have l5:=Zsb (Za2 n) ([]++n.nodes.map Za3++n.sws.map Zbe++n.brs.map Zbl++n.gens.map Zbr) n.loads hr (by simp only[List.length_append,List.length_map,List.length_nil];omega) (by omega) f5
 have l6:=Zr7 (Za2 n) ([]++n.nodes.map Za3++n.sws.map Zbe++n.brs.map Zbl++n.gens.map Zbr++n.loads.map ZbB) n.stores hr (by simp only[List.length_append,List.length_map,List.length_nil];omega) (by omega) f6
 refine Zae ?_
 refine ZaR ?_
 refine Zab ?_
 refine Zaf ?_
 refine Zae ?_
 refine ZaR ?_
 refine Zaf ?_
 refine Zae ?_
 refine Zab ?_
 refine Zag rfl (fun _=>rfl) rfl rfl rfl ?_
 iterate 2 refine Zab ?_
 refine Zaf ?_
 refine(l1.ent ?_).through ?_
 ·refine Ent.trans (tm1:=zNo n.nodes 0) (hp1:=[.cell (Za2 n) true, .cell [.nils] true]) (Zai ⟨rfl,rfl,rfl,rfl,rfl,trivial⟩) ?_
  refine Zbm (σ:=[.is 0, .is 1, .nil]) rfl rfl ?_ ?_
  ·exact⟨⟨rfl,rfl⟩,⟨rfl,rfl⟩,rfl,rfl,rfl,trivial⟩
  ·exact⟨⟨⟨rfl,rfl,rfl,rfl,rfl,rfl,trivial⟩,id⟩,⟨⟨⟨rfl,rfl,rfl⟩,trivial⟩,id⟩,rfl,trivial⟩
 rintro _ tm hp' ⟨rfl,hE⟩
 refine⟨_,_,hE, ?_⟩
 show wp _ _ _ _ _ _ _ _ _
 refine Zae ?_
 refine Zab ?_
 refine Zag rfl (fun _=>rfl) rfl rfl rfl ?_
 iterate 2 refine Zab ?_
 refine Zaf ?_
 refine(l2.ent ?_).through ?_
 ·exact Zai ⟨rfl,rfl,rfl,rfl,rfl,trivial⟩
 rintro _ tm hp' ⟨rfl,hE⟩
 refine⟨_,_,hE, ?_⟩
 show wp _ _ _ _ _ _ _ _ _
 refine Zae ?_
 iterate 2 refine Zab ?_
 refine Zaf ?_
 refine Zae ?_
 refine Zab ?_
 refine Zag rfl (fun _=>rfl) rfl rfl rfl ?_
 iterate 2 refine Zab ?_
 refine Zaf ?_
 refine(l3.ent ?_).through ?_
 ·exact Zai ⟨rfl,rfl,rfl,rfl,rfl,rfl,trivial⟩
 rintro _ tm hp' ⟨rfl,hE⟩
 refine⟨_,_,hE, ?_⟩
 show wp _ _ _ _ _ _ _ _ _
 refine Zae ?_
 refine Zab ?_
 refine Zag rfl (fun _=>rfl) rfl rfl rfl ?_
 iterate 2 refine Zab ?_
 refine Zaf ?_
 refine(l4.ent ?_).through ?_
 ·exact Zai ⟨rfl,rfl,rfl,rfl,rfl,rfl,trivial⟩
 rintro _ tm hp' ⟨rfl,hE⟩
 refine⟨_,_,hE, ?_⟩
 show wp _ _ _ _ _ _ _ _ _
 refine Zae ?_
 refine Zab ?_
 refine Zag rfl (fun _=>rfl) rfl rfl rfl ?_
 iterate 2 refine Zab ?_
 refine Zaf ?_
 refine(l5.ent ?_).through ?_
 ·exact Zai ⟨rfl,rfl,rfl,rfl,rfl,rfl,trivial⟩
 rintro _ tm hp' ⟨rfl,hE⟩
 refine⟨_,_,hE, ?_⟩
 show wp _ _ _ _ _ _ _ _ _
 refine Zae ?_
 refine Zab ?_
 refine Zag rfl (fun _=>rfl) rfl rfl rfl ?_
 iterate 2 refine Zab ?_
 refine Zaf ?_
 refine(l6.ent ?_).through ?_
 ·exact Zai ⟨rfl,rfl,rfl,rfl,rfl,rfl,trivial⟩
 rintro _ tm hp' ⟨rfl,hE⟩
 refine⟨_,_,hE, ?_⟩
 show wp _ _ _ _ _ _ _ _ _
 refine Zae ?_
 refine Zag rfl (fun _=>rfl) rfl rfl rfl ?_
 refine Zab ?_
 refine Zaf ?_
 refine⟨Nat.le_of_eq (Nat.zero_add _), ?_⟩
 exact congrArg (fun z=>SV.v (.l .s) z) (Zbn rfl)
end Go.Proofs.YtgngdcpglnfkeaaDoor
