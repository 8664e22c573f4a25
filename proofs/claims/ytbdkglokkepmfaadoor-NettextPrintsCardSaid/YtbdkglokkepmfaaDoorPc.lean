/-
 nettext's lines.
-/
import Derived.Test.YtbdkglokkepmfaaDoorPb
set_option linter.constructorNameAsVariable false
set_option linter.unusedSimpArgs false
set_option linter.unusedVariables false
namespace Go.Proofs.YtbdkglokkepmfaaDoor
open Go.Am Go.Tx Ne
set_option maxRecDepth 100000
set_option maxHeartbeats 16000000 in
theorem Zln (n:Ne.Net) (hb:big n=false) (hf:Zps n):PureOK Tryd.prog Zax 14 [.agg (ZbB n)] (fun V=>V= .v (.l .s) (ZbW n)):=by
 refine Zav Zaq Tryd.func14 ?_
 simp only[big,Bool.or_eq_false_iff,decide_eq_false_iff_not]at hb
 obtain⟨b1,b2,b3,b4,b5,b6⟩:=hb
 obtain⟨f1,f2,f3,f4,f5,f6⟩:=hf
 have hr:=ZbH n
 have l1:=ZqG (ZbB n) ([]) n.nodes hr (Nat.zero_le _) (by omega) f1
 have l2:=ZqP (ZbB n) ([]++n.nodes.map ZaY) n.sws hr (by simp only[List.length_append,List.length_map,List.length_nil];omega) (by omega) f2
 have l3:=Zqm (ZbB n) ([]++n.nodes.map ZaY++n.sws.map ZaZ) n.brs hr (by simp only[List.length_append,List.length_map,List.length_nil];omega) (by omega) f3
 have l4:=ZqB (ZbB n) ([]++n.nodes.map ZaY++n.sws.map ZaZ++n.brs.map Za7) n.gens hr (by simp only[List.length_append,List.length_map,List.length_nil];omega) (by omega) f4
 have l5:=Zqq (ZbB n) ([]++n.nodes.map ZaY++n.sws.map ZaZ++n.brs.map Za7++n.gens.map Zbf) n.loads hr (by simp only[List.length_append,List.length_map,List.length_nil];omega) (by omega) f5
 have l6:=ZqI (ZbB n) ([]++n.nodes.map ZaY++n.sws.map ZaZ++n.brs.map Za7++n.gens.map Zbf++n.loads.map Zbh) n.stores hr (by simp only[List.length_append,List.length_map,List.length_nil];omega) (by omega) f6
 refine Zae ?_
 refine ZaQ ?_
 refine Zaa ?_
 refine Zad ?_
 refine Zae ?_
 refine Zaa ?_
 refine Zad ?_
 refine Zae ?_
 refine Zaa ?_
 refine Zag rfl (fun _=>rfl) rfl rfl rfl ?_
 iterate 2 refine Zaa ?_
 refine Zad ?_
 refine(l1.ent ?_).through ?_
 ·refine Ent.trans (tm1:=[(1, .ptr 0 0 0),(3, .nils),(19, .v (.l .s) n.nodes),(20,nt n.nodes.length),(21,nt 0)]) (hp1:=[.cell (ZbB n) true]) (Zah ⟨rfl,rfl,rfl,rfl,rfl,trivial⟩) ?_
  refine Zer (k:=3) (Nat.zero_le _) rfl (fun a V ha h=> ?_) rfl
  have hb:Nat.beq a 3=false:=by
   cases hb:Nat.beq a 3 with
   |true=>exact absurd (Nat.eq_of_beq_eq_true hb) ha
   |false=>rfl
  simp only[Zu2,Zck,hb]at h⊢
  exact h
 rintro _ tm hp' ⟨rfl,hE⟩
 refine⟨_,_,hE, ?_⟩
 show wp _ _ _ _ _ _ _ _ _
 refine Zae ?_
 refine Zaa ?_
 refine Zag rfl (fun _=>rfl) rfl rfl rfl ?_
 iterate 2 refine Zaa ?_
 refine Zad ?_
 refine(l2.ent ?_).through ?_
 ·exact Zah ⟨rfl,rfl,rfl,rfl,rfl,trivial⟩
 rintro _ tm hp' ⟨rfl,hE⟩
 refine⟨_,_,hE, ?_⟩
 show wp _ _ _ _ _ _ _ _ _
 refine Zae ?_
 refine Zaa ?_
 refine Zag rfl (fun _=>rfl) rfl rfl rfl ?_
 iterate 2 refine Zaa ?_
 refine Zad ?_
 refine(l3.ent ?_).through ?_
 ·exact Zah ⟨rfl,rfl,rfl,rfl,rfl,trivial⟩
 rintro _ tm hp' ⟨rfl,hE⟩
 refine⟨_,_,hE, ?_⟩
 show wp _ _ _ _ _ _ _ _ _
 refine Zae ?_
 refine Zaa ?_
 refine Zag rfl (fun _=>rfl) rfl rfl rfl ?_
 iterate 2 refine Zaa ?_
 refine Zad ?_
 refine(l4.ent ?_).through ?_
 ·exact Zah ⟨rfl,rfl,rfl,rfl,rfl,trivial⟩
 rintro _ tm hp' ⟨rfl,hE⟩
 refine⟨_,_,hE, ?_⟩
 show wp _ _ _ _ _ _ _ _ _
 refine Zae ?_
 refine Zaa ?_
 refine Zag rfl (fun _=>rfl) rfl rfl rfl ?_
 iterate 2 refine Zaa ?_
 refine Zad ?_
 refine(l5.ent ?_).through ?_
 ·exact Zah ⟨rfl,rfl,rfl,rfl,rfl,trivial⟩
 rintro _ tm hp' ⟨rfl,hE⟩
 refine⟨_,_,hE, ?_⟩
 show wp _ _ _ _ _ _ _ _ _
 refine Zae ?_
 refine Zaa ?_
 refine Zag rfl (fun _=>rfl) rfl rfl rfl ?_
 iterate 2 refine Zaa ?_
 refine Zad ?_
 refine(l6.ent ?_).through ?_
 ·exact Zah ⟨rfl,rfl,rfl,rfl,rfl,trivial⟩
 rintro _ tm hp' ⟨rfl,hE⟩
 refine⟨_,_,hE, ?_⟩
 show wp _ _ _ _ _ _ _ _ _
 refine Zae ?_
 iterate 2 refine Zaa ?_
 refine Zad ?_
 refine⟨Nat.le_of_eq (Nat.zero_add _), ?_⟩
 exact congrArg (fun z=>SV.v (.l .s) z) (ZcQ rfl)
end Go.Proofs.YtbdkglokkepmfaaDoor
