/-
 The reference's Det.
-/
import Derived.Test.YtdnodlkdndfplaaGreatDoorTxI
set_option linter.constructorNameAsVariable false
set_option linter.unusedSimpArgs false
set_option linter.unusedVariables false
namespace Go.Proofs.YtdnodlkdndfplaaGreatDoor
open Go.Am Go.Tx Dv Go.Lib La
set_option maxRecDepth 100000
theorem ZpB: ∀k:Nat,La.sg k=if k % 2=1 then-1 else 1
 |0=>rfl
 |k+1=>by
  rw[La.sg,ZpB k]
  by_cases h:k % 2=1
  ·rw[if_pos h,if_neg (by omega)];rfl
  ·rw[if_neg h,if_pos (by omega)]
theorem Ztl:dz 1 1:=⟨ZnI (by decide) (by decide),ZnI (by decide) (by decide)⟩
theorem ZAb (k:Nat):dz (La.sg k) 1:=by
 rw[ZpB]
 split
 ·exact ZwG Ztl
 ·exact Ztl
theorem ZA3 {B:Nat} {f:Nat→Rat}: ∀ {n:Nat},(∀k,k<n→dz (f k) B)→dz (S n f) (1+n*(B+1))
 |0,_=>by rw[S,Nat.zero_mul];exact ZxW
 |n+1,h=>by
  rw[S]
  refine Zgm ?_ (Zzk (ZA3 fun k hk=>h k (by omega)) (h n (by omega)))
  rw[Nat.succ_mul];omega
def ZhV (c:Nat):Nat→Nat
 |0=>1
 |n+1=>1+(n+1)*(c+2+ZhV c n)
theorem Zp5 {c:Nat}: ∀ {n:Nat} {M:Mx},(∀i j,i<n→j<n→dz (M i j) c)→dz (det n M) (ZhV c n)
 |0,_,_=>Ztl
 |n+1,M,h=>by
  rw[det,ZhV]
  refine Zgm ?_ (ZA3 (B:=1+c+ZhV c n) fun k hk=>ZlE (ZlE (ZAb k) (h 0 k (by omega) hk)) (Zp5 fun i j hi hj=>h _ _ (by omega) (ZqM hj)))
  have e:1+c+ZhV c n+1=c+2+ZhV c n:=by omega
  rw[e];exact Nat.le_refl _
theorem Ztu (c:Nat) (hc:1≤c): ∀n,ZhV c n≤ZhV c (n+1)
 |n=>by
  show ZhV c n≤1+(n+1)*(c+2+ZhV c n)
  have h1:1*(c+2+ZhV c n)≤(n+1)*(c+2+ZhV c n):=Nat.mul_le_mul (by omega) (Nat.le_refl _)
  omega
theorem Zvt {α:Type} {r:List α} {k j n:Nat} {d:α} (h:r.length=n+1) (hk:k<n+1) (hj:j<n):(Zlb k r).getD j d=r.getD (sk k j) d:=by
 rw[List.getD_eq_getElem?_getD,List.getD_eq_getElem?_getD,Zlb]
 congr 1
 unfold sk
 by_cases hjk:j<k
 ·rw[if_pos hjk,List.getElem?_append_left (by rw[List.length_take];omega),List.getElem?_take_of_lt hjk]
 ·rw[if_neg hjk,List.getElem?_append_right (by rw[List.length_take];omega),List.length_take,List.getElem?_drop]
  congr 1
  omega
def mnL (k:Nat) (pss:List (List Rat)):List (List Rat):=(pss.drop 1).map (Zlb k)
theorem Zzz {pss:List (List Rat)} {n k i j:Nat} (hl:pss.length=n+1) (hr: ∀ps∈pss,ps.length=n+1) (hk:k<n+1) (hi:i<n) (hj:j<n):mxQ (mnL k pss) i j=mnr (mxQ pss) k i j:=by
 have h1:(mnL k pss).getD i []=Zlb k (pss.getD (i+1) []):=by
  have hlt:i+1<pss.length:=by omega
  have e:pss[1+i]? =pss[i+1]? :=by rw[Nat.add_comm]
  rw[List.getD_eq_getElem?_getD,List.getD_eq_getElem?_getD,mnL,List.getElem?_map,List.getElem?_drop,e,List.getElem?_eq_getElem hlt]
  rfl
 show((mnL k pss).getD i []).getD j 0=(pss.getD (i+1) []).getD (sk k j) 0
 rw[h1]
 refine Zvt (n:=n) ?_ hk hj
 have hlt:i+1<pss.length:=by omega
 rw[List.getD_eq_getElem?_getD,List.getElem?_eq_getElem hlt]
 exact hr _ (List.getElem_mem hlt)
theorem Zye (k:Nat) (pss:List (List Rat)):((ZbV pss).drop 1).map (Zlb k)=ZbV (mnL k pss):=by
 rw[ZbV,ZbV,mnL,←List.map_drop,List.map_map,List.map_map]
 refine List.map_congr_left fun r _=> ?_
 exact Zvh Zbj k r
theorem Zw1 {k n:Nat} {pss:List (List Rat)} (hl:pss.length=n+1):(mnL k pss).length=n:=by rw[mnL,List.length_map,List.length_drop];omega
theorem ZsN {k:Nat} {pss:List (List Rat)} {ps:List Rat} (h:ps∈mnL k pss): ∃qs∈pss,ps=Zlb k qs:=by
 obtain⟨qs,h1,rfl⟩:=List.mem_map.1 h
 exact⟨qs,List.mem_of_mem_drop h1,rfl⟩
theorem Zvd {α:Type} {k:Nat} {r:List α} {x:α} (h:x∈Zlb k r):x∈r:=by
 rcases List.mem_append.1 h with h|h
 ·exact List.mem_of_mem_take h
 ·exact List.mem_of_mem_drop h
theorem Zoe {pss:List (List Rat)} {i j W:Nat} (hr: ∀ps∈pss,ps.length=W) (hi:i<pss.length) (hj:j<W): ∃ps∈pss,mxQ pss i j∈ps:=by
 refine⟨pss[i],List.getElem_mem hi, ?_⟩
 have hl:=hr _ (List.getElem_mem hi)
 have e:mxQ pss i j=(pss[i])[j]:=by
  show(pss.getD i []).getD j 0=_
  rw[List.getD_eq_getElem?_getD,List.getD_eq_getElem?_getD,List.getElem?_eq_getElem hi,Option.getD_some,List.getElem?_eq_getElem (by omega),Option.getD_some]
 rw[e]
 exact List.getElem_mem _
theorem Zsp (k:Nat) (f:Nat→Rat):S (k+1) f=S k f+f k:=rfl
theorem ZsH:ZhV 12 6≤40000:=by decide
theorem Zol: ∀n,n≤6→ZhV 12 n≤40000:=by
 intro n hn
 have h: ∀d n,n+d=6→ZhV 12 n≤40000:=by
  intro d
  induction d with
  |zero=>intro n hn;have:n=6:=hn;subst this;exact ZsH
  |succ d ih=>intro n hn;exact Nat.le_trans (Ztu 12 (by decide) n) (ih (n+1) (by omega))
 exact h (6-n) n (by omega)
set_option maxHeartbeats 8000000 in
theorem ZwH: ∀ (n:Nat) (pss:List (List Rat)),n≤6→pss.length=n→(∀ps∈pss,ps.length=n)→(∀ps∈pss,∀p∈ps,dz p 12)→PureOK Tryz.prog Zam 24 [.v (.l (.l .s)) (ZbV pss)] (fun V=>V= .v .s (Zbj (det n (mxQ pss))))
 |0,pss,_,hl,_,_=>by
  obtain rfl:=List.length_eq_zero_iff.1 hl
  refine Zab Zaa Tryz.func24 ?_
  refine Zat ?_
  refine Zah ?_
  refine Zas ?_
  refine Zat ?_
  iterate 3 refine Zah ?_
  refine Zas ?_
  refine brT rfl ?_
  refine Zat ?_
  refine Zah ?_
  refine Zas ?_
  have e:Zbj (det 0 (mxQ []))=[49]:=by
   rw[det];kernel_rfl
  exact congrArg (fun x=>SV.v .s x) e.symm
 |n+1,pss,hn,hl,hr,hd=>by
  refine Zab Zaa Tryz.func24 ?_
  have hlT:(ZbV pss).length=n+1:=by rw[ZbV,List.length_map,hl]
  have h1:decide (((ZbV pss).length:Int)=(0:Int))=false:=by rw[decide_eq_false_iff_not,hlT];omega
  have hlt0:0<pss.length:=by omega
  have g0:(ZbV pss)[(0:Int).toNat]? =some (pss[0].map Zbj):=Zoc hlt0
  have hl0:(pss[0].map Zbj).length=n+1:=by rw[List.length_map];exact hr _ (List.getElem_mem hlt0)
  have m0: ∀j (hj:j<n+1),(pss[0].map Zbj)[j]? =some (Zbj (mxQ pss 0 j)):=fun j hj=>by
   have hj':j<pss[0].length:=by have:=hr _ (List.getElem_mem hlt0);omega
   rw[List.getElem?_map,List.getElem?_eq_getElem hj',Option.map_some]
   congr 2
   show _=(pss.getD 0 []).getD j 0
   rw[List.getD_eq_getElem?_getD,List.getD_eq_getElem?_getD,List.getElem?_eq_getElem hlt0,Option.getD_some,List.getElem?_eq_getElem hj',Option.getD_some]
  have dM: ∀i j,i<n+1→j<n+1→dz (mxQ pss i j) 12:=fun i j hi hj=>by
   obtain⟨ps,h2,h3⟩:=Zoe (i:=i) hr (by omega) hj
   exact hd ps h2 _ h3
  obtain⟨R0,eR0⟩: ∃x,pss[0].map Zbj=x:=⟨_,rfl⟩
  rw[eR0]at g0 hl0 m0
  let F:Nat→Rat:=fun c=>La.sg c*mxQ pss 0 c*det n (mnr (mxQ pss) c)
  have dF: ∀k,k<n+1→dz (F k) (13+ZhV 12 n):=fun k hk=>ZlE (ZlE (ZAb k) (dM 0 k (by omega) hk)) (Zp5 fun i j hi hj=>dM _ _ (by omega) (ZqM hj))
  have hB:ZhV 12 (n+1)≤40000:=Zol _ hn
  rw[ZhV]at hB
  have dS: ∀k,k≤n+1→dz (S k F) 40000:=fun k hk=>Zgm (by
   have:=Nat.mul_le_mul hk (Nat.le_refl (13+ZhV 12 n+1))
   have e:12+2+ZhV 12 n=13+ZhV 12 n+1:=by omega
   rw[e]at hB
   omega) (ZA3 (n:=k) fun c hc=>dF c (by omega))
  refine Zat ?_
  refine Zah ?_
  refine Zas ?_
  refine Zat ?_
  iterate 3 refine Zah ?_
  refine Zas ?_
  refine brF h1 ?_
  refine Zat ?_
  refine Zah ?_
  refine Zas ?_
  refine Zat ?_
  refine Zah ?_
  refine Zi9 rfl (fun _=>rfl) (Int.le_refl 0) g0 rfl rfl ?_
  iterate 3 refine Zah ?_
  refine Zas ?_
  refine Zap Zaa rfl (fun(k:Nat)=> [(0, .v (.l (.l .s)) (ZbV pss)),(3, .v .s (Zbj (S k F))),(12, .v (.l .s) R0),(13,nt R0.length),(14,nt k)]) (fun _=> []) (fun k=>k≤n+1) (fun k=>n+1-k) ?_ 0 (Nat.zero_le _) ?_
  ·intro k hk
   cases h2:decide ((k:Int)<(R0.length:Int))with
   |false=>
    refine Zat ?_
    refine Zah ?_
    refine Zas ?_
    refine brF h2 ?_
    have he:k=n+1:=by have:=of_decide_eq_false h2;omega
    subst he
    refine Zat ?_
    iterate 2 refine Zah ?_
    refine Zas ?_
    exact(rfl:SV.v .s (Zbj (S (n+1) F))= .v .s (Zbj (det (n+1) (mxQ pss))))
   |true=>
    have hlt:k<n+1:=by have:=of_decide_eq_true h2;omega
    have gx:R0[(k:Int).toNat]? =some (Zbj (mxQ pss 0 k)):=by rw[Int.toNat_natCast];exact m0 k hlt
    have wk:IntKind.i64.wrap ((k:Int)+1)=((k+1:Nat):Int):=Zae (by omega) (by omega)
    refine Zat ?_
    refine Zah ?_
    refine Zas ?_
    refine brT h2 ?_
    refine Zat ?_
    refine Zah ?_
    refine Zi9 rfl (fun _=>rfl) (Int.natCast_nonneg k) gx rfl rfl ?_
    iterate 3 refine Zah ?_
    refine Zas ?_
    cases h3:(Zbj (mxQ pss 0 k)==[48])with
    |true=>
     have hz:mxQ pss 0 k=0:=by rw[Zhr]at h3;exact of_decide_eq_true h3
     refine Zat ?_
     iterate 2 refine Zah ?_
     refine Zas ?_
     refine brT h3 ?_
     refine Zvz ?_
     refine Zat ?_
     iterate 2 refine Zah ?_
     refine Zas ?_
     refine⟨k+1,hlt,by show n+1-(k+1)<n+1-k;omega, ?_⟩
     have e:S (k+1) F=S k F:=by rw[Zsp,show F k=0 from by show La.sg k*mxQ pss 0 k*_=0;rw[hz];grind];grind
     exact Zaq ⟨rfl,congrArg (fun x=>some (SV.v .s (Zbj x))) e.symm,rfl,rfl,congrArg (fun x=>some (SV.v (.i .i64) x)) wk,trivial⟩
    |false=>
     have hM:=ZuT (ZbV pss) k (by omega) (fun r h=>by
      obtain⟨ps,h4,rfl⟩:=List.mem_map.1 h
      have:=hr ps h4
      rw[List.length_map];omega)
     rw[Zye]at hM
     have hD:=ZwH n (mnL k pss) (by omega) (Zw1 hl) (fun ps h=>by
      obtain⟨qs,h4,rfl⟩:=ZsN h
      exact Zv8 (hr qs h4) hlt) (fun ps h p hp=>by
      obtain⟨qs,h4,rfl⟩:=ZsN h
      exact hd qs h4 p (Zvd hp))
     have eD:det n (mxQ (mnL k pss))=det n (mnr (mxQ pss) k):=ZaU fun i j hi hj=>Zzz hl hr hlt hi hj
     rw[eD]at hD
     have dD:dz (det n (mnr (mxQ pss) k)) 40000:=Zgm (Zol n (by omega)) (Zp5 fun i j hi hj=>dM _ _ (by omega) (ZqM hj))
     have hX:=Zvg (mxQ pss 0 k) (det n (mnr (mxQ pss) k)) (Nat.le_refl 40000) (Zgm (by decide) (dM 0 k (by omega) hlt)) dD
     refine Zat ?_
     iterate 2 refine Zah ?_
     refine Zas ?_
     refine brF h3 ?_
     refine Zat ?_
     iterate 3 refine Zah ?_
     refine Zaj rfl ((hM).mono ?_)
     rintro _ rfl
     refine Zac rfl rfl ?_
     refine Zaj rfl ((hD).mono ?_)
     rintro _ rfl
     refine Zac rfl rfl ?_
     refine Zaj rfl ((hX).mono ?_)
     rintro _ rfl
     refine Zac rfl rfl ?_
     refine Zah ?_
     refine Zas ?_
     obtain⟨X,eX⟩: ∃x,mxQ pss 0 k*det n (mnr (mxQ pss) k)=x:=⟨_,rfl⟩
     have dX:dz X 40000:=by
      rw[←eX]
      exact Zgm (by have:=Zol (n+1) hn;have e:ZhV 12 (n+1)=1+(n+1)*(12+2+ZhV 12 n):=rfl;rw[Nat.succ_mul]at e;omega) (ZlE (dM 0 k (by omega) hlt) (Zp5 fun i j hi hj=>dM _ _ (by omega) (ZqM hj)))
     rw[eX]
     have et:(k:Int).tmod 2=((k % 2:Nat):Int):=rfl
     cases h4:decide (((k:Int).tmod 2)=(1:Int))with
     |true=>
      have hY: -X=F k:=by
       have e1:La.sg k= -1:=by rw[ZpB,if_pos (by have:=of_decide_eq_true h4;rw[et]at this;omega)]
       show-X=La.sg k*mxQ pss 0 k*det n (mnr (mxQ pss) k)
       rw[e1,←eX];grind
      have hN:=ZuS X (Nat.le_refl 40000) dX
      have hA:=ZpY (S k F) (-X) (Nat.le_refl 40000) (dS k hk) (ZwG dX)
      have eS:S k F+ -X=S (k+1) F:=by rw[Zsp,hY]
      rw[eS]at hA
      refine Zat ?_
      refine Zah ?_
      refine Zcq rfl (fun _=>rfl) (by decide) rfl rfl ?_
      refine Zah ?_
      refine Zas ?_
      refine brT h4 ?_
      refine Zat ?_
      refine Zah ?_
      refine Zaj rfl ((hN).mono ?_)
      rintro _ rfl
      refine Zac rfl rfl ?_
      refine Zah ?_
      refine Zas ?_
      refine Zat ?_
      iterate 2 refine Zah ?_
      refine Zaj rfl ((hA).mono ?_)
      rintro _ rfl
      refine Zac rfl rfl ?_
      refine Zah ?_
      refine Zas ?_
      refine Zat ?_
      iterate 2 refine Zah ?_
      refine Zas ?_
      refine⟨k+1,hlt,by show n+1-(k+1)<n+1-k;omega, ?_⟩
      exact Zaq ⟨rfl,rfl,rfl,rfl,congrArg (fun x=>some (SV.v (.i .i64) x)) wk,trivial⟩
     |false=>
      have hY:X=F k:=by
       have e1:La.sg k=1:=by rw[ZpB,if_neg (by have:=of_decide_eq_false h4;rw[et]at this;omega)]
       show X=La.sg k*mxQ pss 0 k*det n (mnr (mxQ pss) k)
       rw[e1,←eX];grind
      have hA:=ZpY (S k F) X (Nat.le_refl 40000) (dS k hk) dX
      have eS:S k F+X=S (k+1) F:=by rw[Zsp,hY]
      rw[eS]at hA
      refine Zat ?_
      refine Zah ?_
      refine Zcq rfl (fun _=>rfl) (by decide) rfl rfl ?_
      refine Zah ?_
      refine Zas ?_
      refine brF h4 ?_
      refine Zat ?_
      iterate 2 refine Zah ?_
      refine Zaj rfl ((hA).mono ?_)
      rintro _ rfl
      refine Zac rfl rfl ?_
      refine Zah ?_
      refine Zas ?_
      refine Zat ?_
      iterate 2 refine Zah ?_
      refine Zas ?_
      refine⟨k+1,hlt,by show n+1-(k+1)<n+1-k;omega, ?_⟩
      exact Zaq ⟨rfl,rfl,rfl,rfl,congrArg (fun x=>some (SV.v (.i .i64) x)) wk,trivial⟩
  ·exact Zaq ⟨rfl,congrArg (fun x=>some (SV.v .s x)) Zi5.symm,rfl,rfl,rfl,trivial⟩
end Go.Proofs.YtdnodlkdndfplaaGreatDoor
