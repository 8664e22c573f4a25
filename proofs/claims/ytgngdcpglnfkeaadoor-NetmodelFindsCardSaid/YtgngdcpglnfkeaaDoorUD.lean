/-
 netmodel's find and the reference's Found: the same.
-/
import Derived.Test.YtgngdcpglnfkeaaDoorUB
import Derived.Test.YtgngdcpglnfkeaaDoorUC
set_option linter.constructorNameAsVariable false
set_option linter.unusedSimpArgs false
set_option linter.unusedVariables false
namespace Go.Proofs.YtgngdcpglnfkeaaDoor
open Go.Am Go.Tx Ne
set_option maxRecDepth 100000
theorem Zkb (s:Txt): ∀ (l:List Txt) (j:Nat),Zah s l j= -1∨(j:Int)≤Zah s l j
 | [],_=> .inl rfl
 |c::t,j=>by
  rw[Zah]
  cases s==c with
  |true=>exact .inr (Int.le_refl _)
  |false=>
   simp only[cond_false]
   rcases Zkb s t (j+1)with h|h
   ·exact .inl h
   ·exact .inr (by omega)
theorem ZsO (s:Txt) (j:Nat) (r:List (List Txt)) (k:Nat):goF s [] j r k=goF s [] 0 r k:=by
 cases r<;>rw[goF,goF]
theorem ZhB {s:Txt} {l:List Txt} {j:Nat} {r:List (List Txt)} {k:Nat} (h:decide (Zah s l j≥0)=true):goF s l j r k=some (k,(Zah s l j).toNat):=by
 induction l generalizing j with
 |nil=>rw[Zah]at h;cases h
 |cons c t ih=>
  rw[Zah,ZcI]at h⊢
  rw[Zkf]
  cases hc:(c==s)with
  |true=>rfl
  |false=>
   rw[hc]at h
   exact ih h
theorem ZfX {s:Txt} {l:List Txt} {j:Nat} {r:List (List Txt)} {k:Nat} (h:decide (Zah s l j≥0)=false):goF s l j r k=goF s [] 0 r k:=by
 induction l generalizing j with
 |nil=>exact ZsO s j r k
 |cons c t ih=>
  rw[Zah,ZcI]at h
  rw[Zkf]
  cases hc:(c==s)with
  |true=>
   rw[hc]at h
   have h:decide ((j:Int)≥0)=false:=h
   have:=of_decide_eq_false h
   omega
  |false=>
   rw[hc]at h
   exact ih h
theorem ZjB (n:Ne.Net) (s:Txt):Zd7 n s=bif decide ((ZaF n s).2<0)then([],0)else ZaF n s:=by
 have lt: ∀ {z:Int},decide (z≥0)=true→decide (z<0)=false:=fun h=>by
  have:=of_decide_eq_true h
  exact decide_eq_false (by omega)
 have tn: ∀ {z:Int},decide (z≥0)=true→((z.toNat:Nat):Int)=z:=fun h=>by
  have:=of_decide_eq_true h
  omega
 unfold Zd7 ZaF
 cases g0:decide (Zah s n.nodes 0≥0)with
 |true=>simp only[cond_true,lt g0,cond_false]
 |false=>
  simp only[cond_false]
  unfold goN
  cases g1:decide (Zah s (n.sws.map (·.1)) 0≥0)with
  |true=>rw[ZhB g1];simp only[cond_true,lt g1,cond_false,tn g1];rfl
  |false=>
   rw[ZfX g1,ZeI]
   simp only[cond_false]
   cases g2:decide (Zah s (n.brs.map (·.1)) 0≥0)with
   |true=>rw[ZhB g2];simp only[cond_true,lt g2,cond_false,tn g2];rfl
   |false=>
    rw[ZfX g2,ZeI]
    simp only[cond_false]
    cases g3:decide (Zah s (n.gens.map (·.1)) 0≥0)with
    |true=>rw[ZhB g3];simp only[cond_true,lt g3,cond_false,tn g3];rfl
    |false=>
     rw[ZfX g3,ZeI]
     simp only[cond_false]
     cases g4:decide (Zah s (n.loads.map (·.1)) 0≥0)with
     |true=>rw[ZhB g4];simp only[cond_true,lt g4,cond_false,tn g4];rfl
     |false=>
      rw[ZfX g4,ZeI]
      simp only[cond_false]
      cases g5:decide (Zah s (n.stores.map (·.1)) 0≥0)with
      |true=>rw[ZhB g5];simp only[cond_true,lt g5,cond_false,tn g5];rfl
      |false=>
       rw[ZfX g5,Zj2 s 0 [] 0 _ rfl]
       rfl
end Go.Proofs.YtgngdcpglnfkeaaDoor
/-
 strings.HasPrefix.
-/
namespace Go.Proofs.YtgngdcpglnfkeaaDoor
open Go.Am Go.Tx Ne
set_option maxRecDepth 100000
def Zkd (s p:Txt):Bool:=bif decide ((s.length:Int)≥(p.length:Int))then s.take p.length==p else false
set_option maxHeartbeats 4000000 in
theorem Zwi (s p:Txt):PureOK Tryd.prog Zaw 41 [.v .s s, .v .s p] (fun V=>V= .v .b (Zkd s p)):=by
 refine Zau Zao Tryd.func41 ?_
 cases h1:decide ((s.length:Int)≥(p.length:Int))with
 |false=>
  have e:Zkd s p=false:=by rw[Zkd,h1];rfl
  refine Zae ?_
  refine Zab ?_
  refine Zaf ?_
  refine Zae ?_
  iterate 6 refine Zab ?_
  refine Zaj h1 ?_
  refine Zaj h1 ?_
  refine Zaj h1 ?_
  refine Zaj h1 ?_
  refine Zaj h1 ?_
  refine Zaj h1 ?_
  refine Zas h1 ?_
  refine Zab ?_
  refine Zaf ?_
  exact congrArg (fun x=>SV.v .b x) e.symm
 |true=>
  have e:Zkd s p=(s.take p.length==p):=by rw[Zkd,h1];rfl
  have hc:(0:Int)≤(p.length:Int)∧(p.length:Int)≤((s.length:Nat):Int):=by have:=of_decide_eq_true h1;omega
  refine Zae ?_
  refine Zab ?_
  refine Zaf ?_
  refine Zae ?_
  iterate 6 refine Zab ?_
  refine Zad h1 ?_
  refine Zad h1 ?_
  refine Zad h1 ?_
  refine Zak rfl rfl rfl h1 (fun _=>rfl) hc rfl rfl ?_
  refine Zad h1 ?_
  refine Zad h1 ?_
  refine Zat h1 ?_
  refine Zab ?_
  refine Zaf ?_
  exact congrArg (fun x=>SV.v .b x) e.symm
theorem ZmI (s p:Txt):PureOK Tryd.prog Zaw 15 [.v .s s, .v .s p] (fun V=>V= .v .b (Zkd s p)):=by
 refine Zau Zao Tryd.func15 ?_
 have h:=Zwi s p
 refine Zae ?_
 refine Zab ?_
 refine Zaf ?_
 refine Zae ?_
 iterate 2 refine Zab ?_
 refine Zac rfl ((h).mono ?_)
 rintro _ rfl
 refine Zaa rfl rfl ?_
 refine Zab ?_
 refine Zaf ?_
 rfl
end Go.Proofs.YtgngdcpglnfkeaaDoor
