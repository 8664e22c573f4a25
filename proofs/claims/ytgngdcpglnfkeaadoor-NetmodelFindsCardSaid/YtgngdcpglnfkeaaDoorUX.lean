/-
 The law NetmodelFinds: true for every network, name and state.
-/
import Derived.Test.YtgngdcpglnfkeaaDoorUW
set_option linter.constructorNameAsVariable false
set_option linter.unusedSimpArgs false
set_option linter.unusedVariables false
namespace Go.Proofs.YtgngdcpglnfkeaaDoor
open Go.Am Go.Tx Ne
set_option maxRecDepth 100000
theorem ZdA {s:Txt}: ∀ {l:List Txt} {i:Nat},0≤Zah s l i→s∈l
 | [],i,h=>absurd h (by rw[Zah];decide)
 |k::r,i,h=>by
  rw[Zah]at h
  cases hb:(s==k)with
  |true=>rw[eq_of_beq hb];exact List.mem_cons_self
  |false=>rw[hb,cond_false]at h;exact List.mem_cons_of_mem _ (ZdA h)
theorem ZoT {n:Ne.Net} {s:Txt} (h0:Zah s n.nodes 0<0) (hz:0≤(ZaF n s).2):
 s∈(ZjJ n).map (·.1)∧(((ZaF n s).1=kSw∧(ZaF n s).2.toNat<n.sws.length)∨((ZaF n s).1=kBr∧(ZaF n s).2.toNat<n.brs.length)∨((ZaF n s).1=kGe∧(ZaF n s).2.toNat<n.gens.length)∨((ZaF n s).1=kLo∧(ZaF n s).2.toNat<n.loads.length)∨((ZaF n s).1=kSt∧(ZaF n s).2.toNat<n.stores.length)):=by
 have g0:decide (Zah s n.nodes 0≥0)=false:=by rw[decide_eq_false_iff_not];omega
 have ge: ∀ {z:Int},decide (z≥0)=true→0≤z:=fun h=>by have:=of_decide_eq_true h;omega
 have mm: ∀ {α:Type} {f:α→Txt} {l:List α},0≤Zah s (l.map f) 0→(Zah s (l.map f) 0).toNat<l.length:=fun h=>by have:=ZkV h;rwa[List.length_map]at this
 have dm:(ZjJ n).map (·.1)=n.sws.map (·.1)++(n.brs.map (·.1)++(n.gens.map (·.1)++(n.loads.map (·.1)++n.stores.map (·.1)))):=by
  unfold ZjJ
  simp only[List.map_append,List.map_map]
  rfl
 rw[dm]
 cases g1:decide (Zah s (n.sws.map (·.1)) 0≥0)with
 |true=>
  have e:ZaF n s=(kSw,Zah s (n.sws.map (·.1)) 0):=by simp only[ZaF,g0,g1];rfl
  rw[e]
  exact⟨List.mem_append_left _ (ZdA (ge g1)), .inl ⟨rfl,mm (ge g1)⟩⟩
 |false=>
  cases g2:decide (Zah s (n.brs.map (·.1)) 0≥0)with
  |true=>
   have e:ZaF n s=(kBr,Zah s (n.brs.map (·.1)) 0):=by simp only[ZaF,g0,g1,g2];rfl
   rw[e]
   exact⟨List.mem_append_right _ (List.mem_append_left _ (ZdA (ge g2))), .inr (.inl ⟨rfl,mm (ge g2)⟩)⟩
  |false=>
   cases g3:decide (Zah s (n.gens.map (·.1)) 0≥0)with
   |true=>
    have e:ZaF n s=(kGe,Zah s (n.gens.map (·.1)) 0):=by simp only[ZaF,g0,g1,g2,g3];rfl
    rw[e]
    exact⟨List.mem_append_right _ (List.mem_append_right _ (List.mem_append_left _ (ZdA (ge g3)))), .inr (.inr (.inl ⟨rfl,mm (ge g3)⟩))⟩
   |false=>
    cases g4:decide (Zah s (n.loads.map (·.1)) 0≥0)with
    |true=>
     have e:ZaF n s=(kLo,Zah s (n.loads.map (·.1)) 0):=by simp only[ZaF,g0,g1,g2,g3,g4];rfl
     rw[e]
     exact⟨List.mem_append_right _ (List.mem_append_right _ (List.mem_append_right _ (List.mem_append_left _ (ZdA (ge g4))))), .inr (.inr (.inr (.inl ⟨rfl,mm (ge g4)⟩)))⟩
    |false=>
     cases g5:decide (Zah s (n.stores.map (·.1)) 0≥0)with
     |true=>
      have e:ZaF n s=(kSt,Zah s (n.stores.map (·.1)) 0):=by simp only[ZaF,g0,g1,g2,g3,g4,g5];rfl
      rw[e]
      exact⟨List.mem_append_right _ (List.mem_append_right _ (List.mem_append_right _ (List.mem_append_right _ (ZdA (ge g5))))), .inr (.inr (.inr (.inr ⟨rfl,mm (ge g5)⟩)))⟩
     |false=>
      have e:ZaF n s=([],-1):=by simp only[ZaF,g0,g1,g2,g3,g4,g5];rfl
      rw[e]at hz
      exact absurd hz (by decide)
theorem Zis (n:Ne.Net) (s:Txt) (b:Bool) (hz:Zbi n):PureOK Tryd.prog Zaw 3 [.agg (Za2 n), .v .s s, .v .b b] (fun V=>V= .v .b true):=by
 by_cases h:ZcK n=0
 ·cases h2:decide ((ZaF n s).2<0)with
  |true=>
   refine Zsi n s b hz h h2 ?_
   have h3:=of_decide_eq_true h2
   refine decide_eq_true (Int.not_le.1 fun h4=> ?_)
   have e:ZaF n s=(kNo,Zah s n.nodes 0):=by rw[ZaF,decide_eq_true (show Zah s n.nodes 0≥0 from h4)];rfl
   rw[e]at h3
   have h3:Zah s n.nodes 0<0:=h3
   omega
  |false=>
   cases h3:decide (Zah s n.nodes 0≥0)with
   |true=>exact Zq7 n s b hz h _ rfl h3
   |false=>
    have l0:Zah s n.nodes 0<0:=by have:=of_decide_eq_false h3;omega
    have l1:0≤(ZaF n s).2:=by have:=of_decide_eq_false h2;omega
    have hfine:=Zpz h
    have hG:=Ztw hfine l0 l1
    obtain⟨hm,hk⟩:=ZoT l0 l1
    obtain⟨it,hit,hs⟩:=List.mem_map.1 hm
    have hs8:=(Zbq (hfine.dev it hit).1).2
    rw[hs]at hs8
    have hz0:(!decide (ZcK n=0))=false:=by rw[h];rfl
    have en:((ZaF n s).2.toNat:Int)=(ZaF n s).2:=Int.toNat_of_nonneg l1
    have eF:Zb2 n s=((ZaF n s).1,((ZaF n s).2.toNat:Int),0):=by rw[Zb2,hz0,h2,en];rfl
    have eN:Zec n s=(0,6):=by rw[Zec,hz0,decide_eq_true l0];rfl
    have eO:Zd7 n s=((ZaF n s).1,((ZaF n s).2.toNat:Int)):=by rw[ZjB,h2,en];rfl
    obtain⟨⟨g,hg1,hg2,hg3⟩,hG2,hG3⟩:=hG
    generalize(ZaF n s).2.toNat=j at eF eO hk hg3 hG2 hG3
    generalize(ZaF n s).1=k at eF eO hk hg3 hG2 hG3
    have hb:=Zf2 h
    have hN:=fun(hk:(k==kSw)=false)=>Zsz n s b hz (by rw[eF]) (by rw[eF,hk];rfl)
    rcases hk with⟨rfl,hj⟩|⟨rfl,hj⟩|⟨rfl,hj⟩|⟨rfl,hj⟩|⟨rfl,hj⟩
    ·have hx:=List.getElem?_eq_getElem hj
     exact Zh6 n s b hz h kSw j g _ _ _ eF eN eO (by omega) rfl rfl (Ztd n s hz j eF hb hj) (ZuI n s b hz j eF hb _ hx) hG3 hG2 hg1 hg2 hg3 (.inl ⟨rfl,rfl,_,hx,rfl⟩)
    ·exact Zh6 n s b hz h kBr j g _ _ _ eF eN eO (by omega) rfl rfl (Zt9 n s hz j eF hb hj) (hN rfl) hG3 hG2 hg1 hg2 hg3 (.inr ⟨rfl,rfl,rfl⟩)
    ·exact Zh6 n s b hz h kGe j g _ _ _ eF eN eO (by omega) rfl rfl (Ztr n s hz j eF hb hj) (hN rfl) hG3 hG2 hg1 hg2 hg3 (.inr ⟨rfl,rfl,rfl⟩)
    ·exact Zh6 n s b hz h kLo j g _ _ _ eF eN eO (by omega) rfl rfl (Zto n s hz j eF hb hj) (hN rfl) hG3 hG2 hg1 hg2 hg3 (.inr ⟨rfl,rfl,rfl⟩)
    ·exact Zh6 n s b hz h kSt j g _ _ _ eF eN eO (by omega) rfl rfl (Ztv n s hz j eF hb hj) (hN rfl) hG3 hG2 hg1 hg2 hg3 (.inr ⟨rfl,rfl,rfl⟩)
 ·exact Ztn n s b hz (by rw[decide_eq_false h];rfl)
end Go.Proofs.YtgngdcpglnfkeaaDoor
