/-
 The reference's Det.
-/
import Derived.Test.YtdnodlkdndfplaaGreatDoorV8
set_option linter.constructorNameAsVariable false
set_option linter.unusedSimpArgs false
set_option linter.unusedVariables false
namespace Go.Proofs.YtdnodlkdndfplaaGreatDoor
open Go.Am Go.Tx Dv Go.Lib La
set_option maxRecDepth 100000
theorem Zps: ∀k:Nat,La.sg k=if k % 2=1 then-1 else 1
 |0=>rfl
 |k+1=>by
  rw[La.sg,Zps k]
  by_cases h:k % 2=1
  ·rw[if_pos h,if_neg (by omega)];rfl
  ·rw[if_neg h,if_pos (by omega)]
theorem ZrE:dz 1 1:=⟨ZlL (by decide) (by decide),ZlL (by decide) (by decide)⟩
theorem Zyp (k:Nat):dz (La.sg k) 1:=by
 rw[Zps]
 split
 ·exact Zv4 ZrE
 ·exact ZrE
theorem ZAd {B:Nat} {f:Nat→Rat}: ∀ {n:Nat},(∀k,k<n→dz (f k) B)→dz (S n f) (1+n*(B+1))
 |0,_=>by rw[S,Nat.zero_mul];exact ZxQ
 |n+1,h=>by
  rw[S]
  refine ZgI ?_ (Zyg (ZAd fun k hk=>h k (by omega)) (h n (by omega)))
  rw[Nat.succ_mul];omega
def Zij (c:Nat):Nat→Nat
 |0=>1
 |n+1=>1+(n+1)*(c+2+Zij c n)
theorem ZoB {c:Nat}: ∀ {n:Nat} {M:Mx},(∀i j,i<n→j<n→dz (M i j) c)→dz (det n M) (Zij c n)
 |0,_,_=>ZrE
 |n+1,M,h=>by
  rw[det,Zij]
  refine ZgI ?_ (ZAd (B:=1+c+Zij c n) fun k hk=>ZlO (ZlO (Zyp k) (h 0 k (by omega) hk)) (ZoB fun i j hi hj=>h _ _ (by omega) (Zqe hj)))
  have e:1+c+Zij c n+1=c+2+Zij c n:=by omega
  rw[e];exact Nat.le_refl _
theorem Zrb (c:Nat) (hc:1≤c): ∀n,Zij c n≤Zij c (n+1)
 |n=>by
  show Zij c n≤1+(n+1)*(c+2+Zij c n)
  have h1:1*(c+2+Zij c n)≤(n+1)*(c+2+Zij c n):=Nat.mul_le_mul (by omega) (Nat.le_refl _)
  omega
theorem Zt3 {α:Type} {r:List α} {k j n:Nat} {d:α} (h:r.length=n+1) (hk:k<n+1) (hj:j<n):(Zj7 k r).getD j d=r.getD (sk k j) d:=by
 rw[List.getD_eq_getElem?_getD,List.getD_eq_getElem?_getD,Zj7]
 congr 1
 unfold sk
 by_cases hjk:j<k
 ·rw[if_pos hjk,List.getElem?_append_left (by rw[List.length_take];omega),List.getElem?_take_of_lt hjk]
 ·rw[if_neg hjk,List.getElem?_append_right (by rw[List.length_take];omega),List.length_take,List.getElem?_drop]
  congr 1
  omega
def mnL (k:Nat) (pss:List (List Rat)):List (List Rat):=(pss.drop 1).map (Zj7 k)
theorem ZyN {pss:List (List Rat)} {n k i j:Nat} (hl:pss.length=n+1) (hr: ∀ps∈pss,ps.length=n+1) (hk:k<n+1) (hi:i<n) (hj:j<n):mxQ (mnL k pss) i j=mnr (mxQ pss) k i j:=by
 have h1:(mnL k pss).getD i []=Zj7 k (pss.getD (i+1) []):=by
  have hlt:i+1<pss.length:=by omega
  have e:pss[1+i]? =pss[i+1]? :=by rw[Nat.add_comm]
  rw[List.getD_eq_getElem?_getD,List.getD_eq_getElem?_getD,mnL,List.getElem?_map,List.getElem?_drop,e,List.getElem?_eq_getElem hlt]
  rfl
 show((mnL k pss).getD i []).getD j 0=(pss.getD (i+1) []).getD (sk k j) 0
 rw[h1]
 refine Zt3 (n:=n) ?_ hk hj
 have hlt:i+1<pss.length:=by omega
 rw[List.getD_eq_getElem?_getD,List.getElem?_eq_getElem hlt]
 exact hr _ (List.getElem_mem hlt)
theorem Zwr (k:Nat) (pss:List (List Rat)):((ZhG pss).drop 1).map (Zj7 k)=ZhG (mnL k pss):=by
 rw[ZhG,ZhG,mnL,←List.map_drop,List.map_map,List.map_map]
 refine List.map_congr_left fun r _=> ?_
 exact ZvF Zbv k r
theorem Zwl {k n:Nat} {pss:List (List Rat)} (hl:pss.length=n+1):(mnL k pss).length=n:=by rw[mnL,List.length_map,List.length_drop];omega
theorem Zrm {k:Nat} {pss:List (List Rat)} {ps:List Rat} (h:ps∈mnL k pss): ∃qs∈pss,ps=Zj7 k qs:=by
 obtain⟨qs,h1,rfl⟩:=List.mem_map.1 h
 exact⟨qs,List.mem_of_mem_drop h1,rfl⟩
theorem Zul {α:Type} {k:Nat} {r:List α} {x:α} (h:x∈Zj7 k r):x∈r:=by
 rcases List.mem_append.1 h with h|h
 ·exact List.mem_of_mem_take h
 ·exact List.mem_of_mem_drop h
theorem Zn1 {pss:List (List Rat)} {i j W:Nat} (hr: ∀ps∈pss,ps.length=W) (hi:i<pss.length) (hj:j<W): ∃ps∈pss,mxQ pss i j∈ps:=by
 refine⟨pss[i],List.getElem_mem hi, ?_⟩
 have hl:=hr _ (List.getElem_mem hi)
 have e:mxQ pss i j=(pss[i])[j]:=by
  show(pss.getD i []).getD j 0=_
  rw[List.getD_eq_getElem?_getD,List.getD_eq_getElem?_getD,List.getElem?_eq_getElem hi,Option.getD_some,List.getElem?_eq_getElem (by omega),Option.getD_some]
 rw[e]
 exact List.getElem_mem _
theorem Zrq (k:Nat) (f:Nat→Rat):S (k+1) f=S k f+f k:=rfl
theorem ZsU:Zij 12 6≤40000:=by decide
theorem Zns: ∀n,n≤6→Zij 12 n≤40000:=by
 intro n hn
 have h: ∀d n,n+d=6→Zij 12 n≤40000:=by
  intro d
  induction d with
  |zero=>intro n hn;have:n=6:=hn;subst this;exact ZsU
  |succ d ih=>intro n hn;exact Nat.le_trans (Zrb 12 (by decide) n) (ih (n+1) (by omega))
 exact h (6-n) n (by omega)
set_option maxHeartbeats 8000000 in
theorem Zwf: ∀ (n:Nat) (pss:List (List Rat)),n≤6→pss.length=n→(∀ps∈pss,ps.length=n)→(∀ps∈pss,∀p∈ps,dz p 12)→PureOK Tryz.prog Zaw 24 [.v (.l (.l .s)) (ZhG pss)] (fun V=>V= .v .s (Zbv (det n (mxQ pss))))
 |0,pss,_,hl,_,_=>by
  obtain rfl:=List.length_eq_zero_iff.1 hl
  refine Zak Zal Tryz.func24 ?_
  repeat (first|refine Zag ?_|refine Zae ?_|refine Zad ?_)
  first|refine Zab (Zaa (id:=0) rfl ?_)|refine Zab (Zab (Zaa (id:=0) rfl ?_))|refine Zaa (id:=0) rfl ?_|refine Zab (Zac rfl (Zab (Zaa (id:=0) rfl ?_)))|refine Zab (Zac rfl (Zab (Zab (Zaa (id:=0) rfl ?_))))|refine Zac rfl (Zab (Zab (Zaa (id:=0) rfl ?_)))|refine Zac rfl (Zab (Zaa (id:=0) rfl ?_))|refine Zab (Zac rfl (Zaa (id:=0) rfl ?_))|refine Zac rfl (Zaa (id:=0) rfl ?_)
  refine Zaf rfl (fun _=>rfl) rfl rfl ?_
  refine Zah ?_
  repeat (first|refine Zae ?_|refine Zad ?_)
  repeat (first|refine Zag ?_|refine Zae ?_|refine Zad ?_)
  first|refine Zab (Zaa (id:=1) rfl ?_)|refine Zab (Zab (Zaa (id:=1) rfl ?_))|refine Zaa (id:=1) rfl ?_|refine Zab (Zac rfl (Zab (Zaa (id:=1) rfl ?_)))|refine Zab (Zac rfl (Zab (Zab (Zaa (id:=1) rfl ?_))))|refine Zac rfl (Zab (Zab (Zaa (id:=1) rfl ?_)))|refine Zac rfl (Zab (Zaa (id:=1) rfl ?_))|refine Zab (Zac rfl (Zaa (id:=1) rfl ?_))|refine Zac rfl (Zaa (id:=1) rfl ?_)
  refine Zaf rfl (fun _=>rfl) rfl rfl ?_
  refine Zaf rfl (fun _=>rfl) rfl rfl ?_
  refine Zaf rfl (fun _=>rfl) rfl rfl ?_
  refine Zah ?_
  repeat (first|refine Zae ?_|refine Zad ?_)
  refine And.intro (fun _=> ?_) (fun h=>nomatch h)
  repeat (first|refine Zag ?_|refine Zae ?_|refine Zad ?_)
  first|refine Zab (Zaa (id:=2) rfl ?_)|refine Zab (Zab (Zaa (id:=2) rfl ?_))|refine Zaa (id:=2) rfl ?_|refine Zab (Zac rfl (Zab (Zaa (id:=2) rfl ?_)))|refine Zab (Zac rfl (Zab (Zab (Zaa (id:=2) rfl ?_))))|refine Zac rfl (Zab (Zab (Zaa (id:=2) rfl ?_)))|refine Zac rfl (Zab (Zaa (id:=2) rfl ?_))|refine Zab (Zac rfl (Zaa (id:=2) rfl ?_))|refine Zac rfl (Zaa (id:=2) rfl ?_)
  refine Zaf rfl (fun _=>rfl) rfl rfl ?_
  refine Zah ?_
  repeat (first|refine Zae ?_|refine Zad ?_)
  have e:Zbv (det 0 (mxQ []))=[49]:=by
   rw[det];kernel_rfl
  exact congrArg (fun x=>SV.v .s x) e.symm
 |n+1,pss,hn,hl,hr,hd=>by
  refine Zak Zal Tryz.func24 ?_
  have hlT:(ZhG pss).length=n+1:=by rw[ZhG,List.length_map,hl]
  have h1:decide (((ZhG pss).length:Int)=(0:Int))=false:=by rw[decide_eq_false_iff_not,hlT];omega
  have hlt0:0<pss.length:=by omega
  have g0:(ZhG pss)[(0:Int).toNat]? =some (pss[0].map Zbv):=ZqM hlt0
  have hl0:(pss[0].map Zbv).length=n+1:=by rw[List.length_map];exact hr _ (List.getElem_mem hlt0)
  have m0: ∀j (hj:j<n+1),(pss[0].map Zbv)[j]? =some (Zbv (mxQ pss 0 j)):=fun j hj=>by
   have hj':j<pss[0].length:=by have:=hr _ (List.getElem_mem hlt0);omega
   rw[List.getElem?_map,List.getElem?_eq_getElem hj',Option.map_some]
   congr 2
   show _=(pss.getD 0 []).getD j 0
   rw[List.getD_eq_getElem?_getD,List.getD_eq_getElem?_getD,List.getElem?_eq_getElem hlt0,Option.getD_some,List.getElem?_eq_getElem hj',Option.getD_some]
  have dM: ∀i j,i<n+1→j<n+1→dz (mxQ pss i j) 12:=fun i j hi hj=>by
   obtain⟨ps,h2,h3⟩:=Zn1 (i:=i) hr (by omega) hj
   exact hd ps h2 _ h3
  obtain⟨R0,eR0⟩: ∃x,pss[0].map Zbv=x:=⟨_,rfl⟩
  rw[eR0]at g0 hl0 m0
  let F:Nat→Rat:=fun c=>La.sg c*mxQ pss 0 c*det n (mnr (mxQ pss) c)
  have dF: ∀k,k<n+1→dz (F k) (13+Zij 12 n):=fun k hk=>ZlO (ZlO (Zyp k) (dM 0 k (by omega) hk)) (ZoB fun i j hi hj=>dM _ _ (by omega) (Zqe hj))
  have hB:Zij 12 (n+1)≤40000:=Zns _ hn
  rw[Zij]at hB
  have dS: ∀k,k≤n+1→dz (S k F) 40000:=fun k hk=>ZgI (by
   have:=Nat.mul_le_mul hk (Nat.le_refl (13+Zij 12 n+1))
   have e:12+2+Zij 12 n=13+Zij 12 n+1:=by omega
   rw[e]at hB
   omega) (ZAd (n:=k) fun c hc=>dF c (by omega))
  repeat (first|refine Zag ?_|refine Zae ?_|refine Zad ?_)
  first|refine Zab (Zaa (id:=0) rfl ?_)|refine Zab (Zab (Zaa (id:=0) rfl ?_))|refine Zaa (id:=0) rfl ?_|refine Zab (Zac rfl (Zab (Zaa (id:=0) rfl ?_)))|refine Zab (Zac rfl (Zab (Zab (Zaa (id:=0) rfl ?_))))|refine Zac rfl (Zab (Zab (Zaa (id:=0) rfl ?_)))|refine Zac rfl (Zab (Zaa (id:=0) rfl ?_))|refine Zab (Zac rfl (Zaa (id:=0) rfl ?_))|refine Zac rfl (Zaa (id:=0) rfl ?_)
  refine Zaf rfl (fun _=>rfl) rfl rfl ?_
  refine Zah ?_
  repeat (first|refine Zae ?_|refine Zad ?_)
  repeat (first|refine Zag ?_|refine Zae ?_|refine Zad ?_)
  first|refine Zab (Zaa (id:=1) rfl ?_)|refine Zab (Zab (Zaa (id:=1) rfl ?_))|refine Zaa (id:=1) rfl ?_|refine Zab (Zac rfl (Zab (Zaa (id:=1) rfl ?_)))|refine Zab (Zac rfl (Zab (Zab (Zaa (id:=1) rfl ?_))))|refine Zac rfl (Zab (Zab (Zaa (id:=1) rfl ?_)))|refine Zac rfl (Zab (Zaa (id:=1) rfl ?_))|refine Zab (Zac rfl (Zaa (id:=1) rfl ?_))|refine Zac rfl (Zaa (id:=1) rfl ?_)
  refine Zaf rfl (fun _=>rfl) rfl rfl ?_
  refine Zaf rfl (fun _=>rfl) rfl rfl ?_
  refine Zaf rfl (fun _=>rfl) rfl rfl ?_
  refine Zah ?_
  repeat (first|refine Zae ?_|refine Zad ?_)
  refine And.intro (fun h=>by first|(cases h;done)|exact(nf h h1).elim) (fun _=> ?_)
  repeat (first|refine Zag ?_|refine Zae ?_|refine Zad ?_)
  first|refine Zab (Zaa (id:=3) rfl ?_)|refine Zab (Zab (Zaa (id:=3) rfl ?_))|refine Zaa (id:=3) rfl ?_|refine Zab (Zac rfl (Zab (Zaa (id:=3) rfl ?_)))|refine Zab (Zac rfl (Zab (Zab (Zaa (id:=3) rfl ?_))))|refine Zac rfl (Zab (Zab (Zaa (id:=3) rfl ?_)))|refine Zac rfl (Zab (Zaa (id:=3) rfl ?_))|refine Zab (Zac rfl (Zaa (id:=3) rfl ?_))|refine Zac rfl (Zaa (id:=3) rfl ?_)
  refine Zaf rfl (fun _=>rfl) rfl rfl ?_
  refine Zah ?_
  repeat (first|refine Zae ?_|refine Zad ?_)
  repeat (first|refine Zag ?_|refine Zae ?_|refine Zad ?_)
  first|refine Zab (Zaa (id:=4) rfl ?_)|refine Zab (Zab (Zaa (id:=4) rfl ?_))|refine Zaa (id:=4) rfl ?_|refine Zab (Zac rfl (Zab (Zaa (id:=4) rfl ?_)))|refine Zab (Zac rfl (Zab (Zab (Zaa (id:=4) rfl ?_))))|refine Zac rfl (Zab (Zab (Zaa (id:=4) rfl ?_)))|refine Zac rfl (Zab (Zaa (id:=4) rfl ?_))|refine Zab (Zac rfl (Zaa (id:=4) rfl ?_))|refine Zac rfl (Zaa (id:=4) rfl ?_)
  refine Zaf rfl (fun _=>rfl) rfl rfl ?_
  refine ZmH rfl (fun _=>rfl) (Int.le_refl 0) g0 rfl rfl ?_
  refine Zaf rfl (fun _=>rfl) rfl rfl ?_
  refine Zaf rfl (fun _=>rfl) rfl rfl ?_
  refine Zaf rfl (fun _=>rfl) rfl rfl ?_
  refine Zah ?_
  repeat (first|refine Zae ?_|refine Zad ?_)
  refine Zaz Zal rfl (fun(k:Nat)=> [(0, .v (.l (.l .s)) (ZhG pss)),(3, .v .s (Zbv (S k F))),(12, .v (.l .s) R0),(13,nt R0.length),(14,nt k)]) (fun _=> []) (fun k=>k≤n+1) (fun k=>n+1-k) ?_ 0 (Nat.zero_le _) ?_
  ·intro k hk
   cases h2:decide ((k:Int)<(R0.length:Int))with
   |false=>
    repeat (first|refine Zag ?_|refine Zae ?_|refine Zad ?_)
    first|refine Zab (Zaa (id:=5) rfl ?_)|refine Zab (Zab (Zaa (id:=5) rfl ?_))|refine Zaa (id:=5) rfl ?_|refine Zab (Zac rfl (Zab (Zaa (id:=5) rfl ?_)))|refine Zab (Zac rfl (Zab (Zab (Zaa (id:=5) rfl ?_))))|refine Zac rfl (Zab (Zab (Zaa (id:=5) rfl ?_)))|refine Zac rfl (Zab (Zaa (id:=5) rfl ?_))|refine Zab (Zac rfl (Zaa (id:=5) rfl ?_))|refine Zac rfl (Zaa (id:=5) rfl ?_)
    refine Zaf rfl (fun _=>rfl) rfl rfl ?_
    refine Zah ?_
    repeat (first|refine Zae ?_|refine Zad ?_)
    refine And.intro (fun h=>by first|(cases h;done)|exact(nf h h2).elim) (fun _=> ?_)
    have he:k=n+1:=by have:=of_decide_eq_false h2;omega
    subst he
    repeat (first|refine Zag ?_|refine Zae ?_|refine Zad ?_)
    first|refine Zab (Zaa (id:=13) rfl ?_)|refine Zab (Zab (Zaa (id:=13) rfl ?_))|refine Zaa (id:=13) rfl ?_|refine Zab (Zac rfl (Zab (Zaa (id:=13) rfl ?_)))|refine Zab (Zac rfl (Zab (Zab (Zaa (id:=13) rfl ?_))))|refine Zac rfl (Zab (Zab (Zaa (id:=13) rfl ?_)))|refine Zac rfl (Zab (Zaa (id:=13) rfl ?_))|refine Zab (Zac rfl (Zaa (id:=13) rfl ?_))|refine Zac rfl (Zaa (id:=13) rfl ?_)
    refine Zaf rfl (fun _=>rfl) rfl rfl ?_
    refine Zaf rfl (fun _=>rfl) rfl rfl ?_
    refine Zah ?_
    repeat (first|refine Zae ?_|refine Zad ?_)
    exact(rfl:SV.v .s (Zbv (S (n+1) F))= .v .s (Zbv (det (n+1) (mxQ pss))))
   |true=>
    have hlt:k<n+1:=by have:=of_decide_eq_true h2;omega
    have gx:R0[(k:Int).toNat]? =some (Zbv (mxQ pss 0 k)):=by rw[Int.toNat_natCast];exact m0 k hlt
    have wk:IntKind.i64.wrap ((k:Int)+1)=((k+1:Nat):Int):=Zao (by omega) (by omega)
    repeat (first|refine Zag ?_|refine Zae ?_|refine Zad ?_)
    first|refine Zab (Zaa (id:=5) rfl ?_)|refine Zab (Zab (Zaa (id:=5) rfl ?_))|refine Zaa (id:=5) rfl ?_|refine Zab (Zac rfl (Zab (Zaa (id:=5) rfl ?_)))|refine Zab (Zac rfl (Zab (Zab (Zaa (id:=5) rfl ?_))))|refine Zac rfl (Zab (Zab (Zaa (id:=5) rfl ?_)))|refine Zac rfl (Zab (Zaa (id:=5) rfl ?_))|refine Zab (Zac rfl (Zaa (id:=5) rfl ?_))|refine Zac rfl (Zaa (id:=5) rfl ?_)
    refine Zaf rfl (fun _=>rfl) rfl rfl ?_
    refine Zah ?_
    repeat (first|refine Zae ?_|refine Zad ?_)
    refine And.intro (fun _=> ?_) (fun h=>by first|(cases h;done)|exact(nf h2 h).elim)
    repeat (first|refine Zag ?_|refine Zae ?_|refine Zad ?_)
    first|refine Zab (Zaa (id:=6) rfl ?_)|refine Zab (Zab (Zaa (id:=6) rfl ?_))|refine Zaa (id:=6) rfl ?_|refine Zab (Zac rfl (Zab (Zaa (id:=6) rfl ?_)))|refine Zab (Zac rfl (Zab (Zab (Zaa (id:=6) rfl ?_))))|refine Zac rfl (Zab (Zab (Zaa (id:=6) rfl ?_)))|refine Zac rfl (Zab (Zaa (id:=6) rfl ?_))|refine Zab (Zac rfl (Zaa (id:=6) rfl ?_))|refine Zac rfl (Zaa (id:=6) rfl ?_)
    refine Zaf rfl (fun _=>rfl) rfl rfl ?_
    refine ZmH rfl (fun _=>rfl) (Int.natCast_nonneg k) gx rfl rfl ?_
    refine Zaf rfl (fun _=>rfl) rfl rfl ?_
    refine Zaf rfl (fun _=>rfl) rfl rfl ?_
    refine Zaf rfl (fun _=>rfl) rfl rfl ?_
    refine Zah ?_
    repeat (first|refine Zae ?_|refine Zad ?_)
    cases h3:(Zbv (mxQ pss 0 k)==[48])with
    |true=>
     have hz:mxQ pss 0 k=0:=by rw[Zml]at h3;exact of_decide_eq_true h3
     repeat (first|refine Zag ?_|refine Zae ?_|refine Zad ?_)
     first|refine Zab (Zaa (id:=7) rfl ?_)|refine Zab (Zab (Zaa (id:=7) rfl ?_))|refine Zaa (id:=7) rfl ?_|refine Zab (Zac rfl (Zab (Zaa (id:=7) rfl ?_)))|refine Zab (Zac rfl (Zab (Zab (Zaa (id:=7) rfl ?_))))|refine Zac rfl (Zab (Zab (Zaa (id:=7) rfl ?_)))|refine Zac rfl (Zab (Zaa (id:=7) rfl ?_))|refine Zab (Zac rfl (Zaa (id:=7) rfl ?_))|refine Zac rfl (Zaa (id:=7) rfl ?_)
     refine Zaf rfl (fun _=>rfl) rfl rfl ?_
     refine Zaf rfl (fun _=>rfl) rfl rfl ?_
     refine Zah ?_
     repeat (first|refine Zae ?_|refine Zad ?_)
     refine And.intro (fun _=> ?_) (fun h=>by first|(cases h;done)|exact(nf h3 h).elim)
     refine Zpc ?_
     repeat (first|refine Zag ?_|refine Zae ?_|refine Zad ?_)
     first|refine Zab (Zaa (id:=12) rfl ?_)|refine Zab (Zab (Zaa (id:=12) rfl ?_))|refine Zaa (id:=12) rfl ?_|refine Zab (Zac rfl (Zab (Zaa (id:=12) rfl ?_)))|refine Zab (Zac rfl (Zab (Zab (Zaa (id:=12) rfl ?_))))|refine Zac rfl (Zab (Zab (Zaa (id:=12) rfl ?_)))|refine Zac rfl (Zab (Zaa (id:=12) rfl ?_))|refine Zab (Zac rfl (Zaa (id:=12) rfl ?_))|refine Zac rfl (Zaa (id:=12) rfl ?_)
     refine Zaf rfl (fun _=>rfl) rfl rfl ?_
     refine Zaf rfl (fun _=>rfl) rfl rfl ?_
     refine Zah ?_
     repeat (first|refine Zae ?_|refine Zad ?_)
     refine⟨k+1,hlt,by show n+1-(k+1)<n+1-k;omega, ?_⟩
     have e:S (k+1) F=S k F:=by rw[Zrq,show F k=0 from by show La.sg k*mxQ pss 0 k*_=0;rw[hz];grind];grind
     exact ZaO ⟨rfl,congrArg (fun x=>some (SV.v .s (Zbv x))) e.symm,rfl,rfl,congrArg (fun x=>some (SV.v (.i .i64) x)) wk,trivial⟩
    |false=>
     have hM:=Zuk (ZhG pss) k (by omega) (fun r h=>by
      obtain⟨ps,h4,rfl⟩:=List.mem_map.1 h
      have:=hr ps h4
      rw[List.length_map];omega)
     rw[Zwr]at hM
     have hD:=Zwf n (mnL k pss) (by omega) (Zwl hl) (fun ps h=>by
      obtain⟨qs,h4,rfl⟩:=Zrm h
      exact Zvs (hr qs h4) hlt) (fun ps h p hp=>by
      obtain⟨qs,h4,rfl⟩:=Zrm h
      exact hd qs h4 p (Zul hp))
     have eD:det n (mxQ (mnL k pss))=det n (mnr (mxQ pss) k):=ZaG fun i j hi hj=>ZyN hl hr hlt hi hj
     rw[eD]at hD
     have dD:dz (det n (mnr (mxQ pss) k)) 40000:=ZgI (Zns n (by omega)) (ZoB fun i j hi hj=>dM _ _ (by omega) (Zqe hj))
     have hX:=ZuC (mxQ pss 0 k) (det n (mnr (mxQ pss) k)) (Nat.le_refl 40000) (ZgI (by decide) (dM 0 k (by omega) hlt)) dD
     repeat (first|refine Zag ?_|refine Zae ?_|refine Zad ?_)
     first|refine Zab (Zaa (id:=7) rfl ?_)|refine Zab (Zab (Zaa (id:=7) rfl ?_))|refine Zaa (id:=7) rfl ?_|refine Zab (Zac rfl (Zab (Zaa (id:=7) rfl ?_)))|refine Zab (Zac rfl (Zab (Zab (Zaa (id:=7) rfl ?_))))|refine Zac rfl (Zab (Zab (Zaa (id:=7) rfl ?_)))|refine Zac rfl (Zab (Zaa (id:=7) rfl ?_))|refine Zab (Zac rfl (Zaa (id:=7) rfl ?_))|refine Zac rfl (Zaa (id:=7) rfl ?_)
     refine Zaf rfl (fun _=>rfl) rfl rfl ?_
     refine Zaf rfl (fun _=>rfl) rfl rfl ?_
     refine Zah ?_
     repeat (first|refine Zae ?_|refine Zad ?_)
     refine And.intro (fun h=>by first|(cases h;done)|exact(nf h h3).elim) (fun _=> ?_)
     repeat (first|refine Zag ?_|refine Zae ?_|refine Zad ?_)
     first|refine Zab (Zaa (id:=8) rfl ?_)|refine Zab (Zab (Zaa (id:=8) rfl ?_))|refine Zaa (id:=8) rfl ?_|refine Zab (Zac rfl (Zab (Zaa (id:=8) rfl ?_)))|refine Zab (Zac rfl (Zab (Zab (Zaa (id:=8) rfl ?_))))|refine Zac rfl (Zab (Zab (Zaa (id:=8) rfl ?_)))|refine Zac rfl (Zab (Zaa (id:=8) rfl ?_))|refine Zab (Zac rfl (Zaa (id:=8) rfl ?_))|refine Zac rfl (Zaa (id:=8) rfl ?_)
     refine Zaf rfl (fun _=>rfl) rfl rfl ?_
     refine Zaf rfl (fun _=>rfl) rfl rfl ?_
     refine Zaf rfl (fun _=>rfl) rfl rfl ?_
     refine Zau rfl ((hM).mono ?_)
     rintro _ rfl
     refine Zam rfl rfl ?_
     refine Zau rfl ((hD).mono ?_)
     rintro _ rfl
     refine Zam rfl rfl ?_
     refine Zau rfl ((hX).mono ?_)
     rintro _ rfl
     refine Zam rfl rfl ?_
     refine Zaf rfl (fun _=>rfl) rfl rfl ?_
     refine Zah ?_
     repeat (first|refine Zae ?_|refine Zad ?_)
     obtain⟨X,eX⟩: ∃x,mxQ pss 0 k*det n (mnr (mxQ pss) k)=x:=⟨_,rfl⟩
     have dX:dz X 40000:=by
      rw[←eX]
      exact ZgI (by have:=Zns (n+1) hn;have e:Zij 12 (n+1)=1+(n+1)*(12+2+Zij 12 n):=rfl;rw[Nat.succ_mul]at e;omega) (ZlO (dM 0 k (by omega) hlt) (ZoB fun i j hi hj=>dM _ _ (by omega) (Zqe hj)))
     rw[eX]
     have et:(k:Int).tmod 2=((k % 2:Nat):Int):=rfl
     cases h4:decide (((k:Int).tmod 2)=(1:Int))with
     |true=>
      have hY: -X=F k:=by
       have e1:La.sg k= -1:=by rw[Zps,if_pos (by have:=of_decide_eq_true h4;rw[et]at this;omega)]
       show-X=La.sg k*mxQ pss 0 k*det n (mnr (mxQ pss) k)
       rw[e1,←eX];grind
      have hN:=Zuh X (Nat.le_refl 40000) dX
      have hA:=ZoJ (S k F) (-X) (Nat.le_refl 40000) (dS k hk) (Zv4 dX)
      have eS:S k F+ -X=S (k+1) F:=by rw[Zrq,hY]
      rw[eS]at hA
      repeat (first|refine Zag ?_|refine Zae ?_|refine Zad ?_)
      first|refine Zab (Zaa (id:=9) rfl ?_)|refine Zab (Zab (Zaa (id:=9) rfl ?_))|refine Zaa (id:=9) rfl ?_|refine Zab (Zac rfl (Zab (Zaa (id:=9) rfl ?_)))|refine Zab (Zac rfl (Zab (Zab (Zaa (id:=9) rfl ?_))))|refine Zac rfl (Zab (Zab (Zaa (id:=9) rfl ?_)))|refine Zac rfl (Zab (Zaa (id:=9) rfl ?_))|refine Zab (Zac rfl (Zaa (id:=9) rfl ?_))|refine Zac rfl (Zaa (id:=9) rfl ?_)
      refine Zaf rfl (fun _=>rfl) rfl rfl ?_
      refine Zu0 rfl (fun _=>rfl) (by decide) rfl rfl ?_
      refine Zaf rfl (fun _=>rfl) rfl rfl ?_
      refine Zah ?_
      repeat (first|refine Zae ?_|refine Zad ?_)
      refine And.intro (fun _=> ?_) (fun h=>by first|(cases h;done)|exact(nf h4 h).elim)
      repeat (first|refine Zag ?_|refine Zae ?_|refine Zad ?_)
      first|refine Zab (Zaa (id:=10) rfl ?_)|refine Zab (Zab (Zaa (id:=10) rfl ?_))|refine Zaa (id:=10) rfl ?_|refine Zab (Zac rfl (Zab (Zaa (id:=10) rfl ?_)))|refine Zab (Zac rfl (Zab (Zab (Zaa (id:=10) rfl ?_))))|refine Zac rfl (Zab (Zab (Zaa (id:=10) rfl ?_)))|refine Zac rfl (Zab (Zaa (id:=10) rfl ?_))|refine Zab (Zac rfl (Zaa (id:=10) rfl ?_))|refine Zac rfl (Zaa (id:=10) rfl ?_)
      refine Zaf rfl (fun _=>rfl) rfl rfl ?_
      refine Zau rfl ((hN).mono ?_)
      rintro _ rfl
      refine Zam rfl rfl ?_
      refine Zaf rfl (fun _=>rfl) rfl rfl ?_
      refine Zah ?_
      repeat (first|refine Zae ?_|refine Zad ?_)
      repeat (first|refine Zag ?_|refine Zae ?_|refine Zad ?_)
      first|refine Zab (Zaa (id:=11) rfl ?_)|refine Zab (Zab (Zaa (id:=11) rfl ?_))|refine Zaa (id:=11) rfl ?_|refine Zab (Zac rfl (Zab (Zaa (id:=11) rfl ?_)))|refine Zab (Zac rfl (Zab (Zab (Zaa (id:=11) rfl ?_))))|refine Zac rfl (Zab (Zab (Zaa (id:=11) rfl ?_)))|refine Zac rfl (Zab (Zaa (id:=11) rfl ?_))|refine Zab (Zac rfl (Zaa (id:=11) rfl ?_))|refine Zac rfl (Zaa (id:=11) rfl ?_)
      refine Zaf rfl (fun _=>rfl) rfl rfl ?_
      refine Zaf rfl (fun _=>rfl) rfl rfl ?_
      refine Zau rfl ((hA).mono ?_)
      rintro _ rfl
      refine Zam rfl rfl ?_
      refine Zaf rfl (fun _=>rfl) rfl rfl ?_
      refine Zah ?_
      repeat (first|refine Zae ?_|refine Zad ?_)
      repeat (first|refine Zag ?_|refine Zae ?_|refine Zad ?_)
      first|refine Zab (Zaa (id:=12) rfl ?_)|refine Zab (Zab (Zaa (id:=12) rfl ?_))|refine Zaa (id:=12) rfl ?_|refine Zab (Zac rfl (Zab (Zaa (id:=12) rfl ?_)))|refine Zab (Zac rfl (Zab (Zab (Zaa (id:=12) rfl ?_))))|refine Zac rfl (Zab (Zab (Zaa (id:=12) rfl ?_)))|refine Zac rfl (Zab (Zaa (id:=12) rfl ?_))|refine Zab (Zac rfl (Zaa (id:=12) rfl ?_))|refine Zac rfl (Zaa (id:=12) rfl ?_)
      refine Zaf rfl (fun _=>rfl) rfl rfl ?_
      refine Zaf rfl (fun _=>rfl) rfl rfl ?_
      refine Zah ?_
      repeat (first|refine Zae ?_|refine Zad ?_)
      refine⟨k+1,hlt,by show n+1-(k+1)<n+1-k;omega, ?_⟩
      exact ZaO ⟨rfl,rfl,rfl,rfl,congrArg (fun x=>some (SV.v (.i .i64) x)) wk,trivial⟩
     |false=>
      have hY:X=F k:=by
       have e1:La.sg k=1:=by rw[Zps,if_neg (by have:=of_decide_eq_false h4;rw[et]at this;omega)]
       show X=La.sg k*mxQ pss 0 k*det n (mnr (mxQ pss) k)
       rw[e1,←eX];grind
      have hA:=ZoJ (S k F) X (Nat.le_refl 40000) (dS k hk) dX
      have eS:S k F+X=S (k+1) F:=by rw[Zrq,hY]
      rw[eS]at hA
      repeat (first|refine Zag ?_|refine Zae ?_|refine Zad ?_)
      first|refine Zab (Zaa (id:=9) rfl ?_)|refine Zab (Zab (Zaa (id:=9) rfl ?_))|refine Zaa (id:=9) rfl ?_|refine Zab (Zac rfl (Zab (Zaa (id:=9) rfl ?_)))|refine Zab (Zac rfl (Zab (Zab (Zaa (id:=9) rfl ?_))))|refine Zac rfl (Zab (Zab (Zaa (id:=9) rfl ?_)))|refine Zac rfl (Zab (Zaa (id:=9) rfl ?_))|refine Zab (Zac rfl (Zaa (id:=9) rfl ?_))|refine Zac rfl (Zaa (id:=9) rfl ?_)
      refine Zaf rfl (fun _=>rfl) rfl rfl ?_
      refine Zu0 rfl (fun _=>rfl) (by decide) rfl rfl ?_
      refine Zaf rfl (fun _=>rfl) rfl rfl ?_
      refine Zah ?_
      repeat (first|refine Zae ?_|refine Zad ?_)
      refine And.intro (fun h=>by first|(cases h;done)|exact(nf h h4).elim) (fun _=> ?_)
      repeat (first|refine Zag ?_|refine Zae ?_|refine Zad ?_)
      first|refine Zab (Zaa (id:=11) rfl ?_)|refine Zab (Zab (Zaa (id:=11) rfl ?_))|refine Zaa (id:=11) rfl ?_|refine Zab (Zac rfl (Zab (Zaa (id:=11) rfl ?_)))|refine Zab (Zac rfl (Zab (Zab (Zaa (id:=11) rfl ?_))))|refine Zac rfl (Zab (Zab (Zaa (id:=11) rfl ?_)))|refine Zac rfl (Zab (Zaa (id:=11) rfl ?_))|refine Zab (Zac rfl (Zaa (id:=11) rfl ?_))|refine Zac rfl (Zaa (id:=11) rfl ?_)
      refine Zaf rfl (fun _=>rfl) rfl rfl ?_
      refine Zaf rfl (fun _=>rfl) rfl rfl ?_
      refine Zau rfl ((hA).mono ?_)
      rintro _ rfl
      refine Zam rfl rfl ?_
      refine Zaf rfl (fun _=>rfl) rfl rfl ?_
      refine Zah ?_
      repeat (first|refine Zae ?_|refine Zad ?_)
      repeat (first|refine Zag ?_|refine Zae ?_|refine Zad ?_)
      first|refine Zab (Zaa (id:=12) rfl ?_)|refine Zab (Zab (Zaa (id:=12) rfl ?_))|refine Zaa (id:=12) rfl ?_|refine Zab (Zac rfl (Zab (Zaa (id:=12) rfl ?_)))|refine Zab (Zac rfl (Zab (Zab (Zaa (id:=12) rfl ?_))))|refine Zac rfl (Zab (Zab (Zaa (id:=12) rfl ?_)))|refine Zac rfl (Zab (Zaa (id:=12) rfl ?_))|refine Zab (Zac rfl (Zaa (id:=12) rfl ?_))|refine Zac rfl (Zaa (id:=12) rfl ?_)
      refine Zaf rfl (fun _=>rfl) rfl rfl ?_
      refine Zaf rfl (fun _=>rfl) rfl rfl ?_
      refine Zah ?_
      repeat (first|refine Zae ?_|refine Zad ?_)
      refine⟨k+1,hlt,by show n+1-(k+1)<n+1-k;omega, ?_⟩
      exact ZaO ⟨rfl,rfl,rfl,rfl,congrArg (fun x=>some (SV.v (.i .i64) x)) wk,trivial⟩
  ·exact ZaO ⟨rfl,congrArg (fun x=>some (SV.v .s x)) Zh1.symm,rfl,rfl,rfl,trivial⟩
end Go.Proofs.YtdnodlkdndfplaaGreatDoor
