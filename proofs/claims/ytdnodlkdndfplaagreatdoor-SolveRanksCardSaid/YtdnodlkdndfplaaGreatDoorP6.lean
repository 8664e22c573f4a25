/-
 stringslite.Index at a text of one byte: a primitive.
-/
import Derived.Test.YtdnodlkdndfplaaGreatDoorP5
import Derived.Lay
import Derived.LaidSub
set_option linter.constructorNameAsVariable false
set_option linter.unusedSimpArgs false
set_option linter.unusedVariables false
namespace Go.Proofs.YtdnodlkdndfplaaGreatDoor
open Go.Shelf Go.RowKit Dv Go.Am
theorem ZiZ: ∀qs v,indexG qs=some v→ ∀ (S:Nat→Prop) w vals,(∀b,S b→b<w.heap.size)→Laid.ok S w→LRel w S qs vals→
 Calls Tryz.prog 168 vals.toArray w fun e w'=> ∃u,e= .returned u∧Below w.heap.size w w'∧IRel w' (fun b=>S b∨(w.heap.size≤b∧b<w'.heap.size)) v u:=by
 intro qs v hv S w vals hS hL hr
 unfold indexG at hv
 split at hv
 ·rename_i s t
  split at hv
  ·rename_i c hc
   cases hv
   simp only[LRel,IRel]at hr
   obtain⟨_,_,rfl,rfl,_,_,rfl,rfl,rfl⟩:=hr
   have ht:t=⟨#[c]⟩:=by
    cases t with
    |mk d=>
     have h1:d.toList=[c]:=hc
     have h2:d= #[c]:=by rw[←Array.toList_inj,h1]
     rw[h2]
   subst ht
   refine(Any.stringslite_Index_one Tryz.lays219 s c w).mono ?_
   rintro e w' ⟨rfl,rfl⟩
   refine⟨_,rfl,Below.refl _ _, ?_⟩
   rw[Zz6]
   simp only[IRel]
  ·cases hv
 ·cases hv
end Go.Proofs.YtdnodlkdndfplaaGreatDoor
/-
 solveFact: run by the kernel.
-/
namespace Go.Proofs.YtdnodlkdndfplaaGreatDoor
open Go.Am Go.Tx
set_option maxRecDepth 1000000 in
theorem Zk3:Zlc ((Zey Tryz.prog ZtB 400).rn 20 [] [])=true:=by decide+kernel
end Go.Proofs.YtdnodlkdndfplaaGreatDoor
/-
 The primitives of the seat are sound; its text passes the static checks.
-/
namespace Go.Proofs.YtdnodlkdndfplaaGreatDoor
open Go.RowKit Go.Shelf Go.Lib Dv Go.Tx Go.Am
set_option maxRecDepth 100000
theorem Zyg:Zbm Tryz.prog ZtB:=by
 intro f g hg
 have hg:Zpj f=some g:=hg
 unfold Zpj at hg
 split at hg
 ·cases hg;exact ZjK
 ·cases hg;exact Zil
 ·cases hg;exact ZiZ
 ·cases hg
theorem ZxA:Static Tryz.prog ZtB:=Zez Zux fun f hf=>by
 unfold Zpj at hf
 split at hf
 ·exact⟨_,Tryz.func126,by kernel_rfl,by kernel_rfl⟩
 ·exact⟨_,Tryz.func150,by kernel_rfl,by kernel_rfl⟩
 ·exact⟨_,Tryz.func168,by kernel_rfl,by kernel_rfl⟩
 ·cases hf
theorem Zqh: ∀qs v,Zxd qs=some v→ ∀ (S:Nat→Prop) w vals,(∀b,S b→b<w.heap.size)→Laid.ok S w→LRel w S qs vals→
 Calls Tryz.prog 20 vals.toArray w fun e w'=> ∃u,e= .returned u∧Below w.heap.size w w'∧IRel w' (fun b=>S b∨(w.heap.size≤b∧b<w'.heap.size)) v u:=by
 intro qs v hv
 refine ZnX (l:=[20]) ZxA Zyg (fun f hf=> ?_) 20 Zwk rfl qs v ?_
 ·rw[List.mem_singleton.1 hf]
  exact⟨400,Zk3⟩
 ·cases qs<;>exact hv
theorem Zy9:Zbm Tryz.prog Zam:=by
 intro f g hg
 have hg:prims f=some g:=hg
 unfold prims at hg
 split at hg
 ·cases hg;exact ZjK
 ·cases hg;exact Zil
 ·cases hg;exact ZiZ
 ·cases hg;exact Zqh
 ·cases hg
theorem Zw6:Static Tryz.prog Zam:=Zez Zt6 fun f hf=>by
 unfold prims at hf
 split at hf
 ·exact⟨_,Tryz.func126,by kernel_rfl,by kernel_rfl⟩
 ·exact⟨_,Tryz.func150,by kernel_rfl,by kernel_rfl⟩
 ·exact⟨_,Tryz.func168,by kernel_rfl,by kernel_rfl⟩
 ·exact⟨_,Tryz.func20,by kernel_rfl,by kernel_rfl⟩
 ·cases hf
theorem Zon:PureOK Tryz.prog Zam 20 [] (fun V=>V= .v .b true):=by
 refine⟨fun qs hr=> ?_⟩
 simp only[RL]at hr
 subst hr
 refine⟨.bool true, .v .b true, ?_,by simp only[RV,RR],rfl⟩
 unfold Zbr
 rw[show Zam.prim 20=some Zxd from rfl]
 rfl
end Go.Proofs.YtdnodlkdndfplaaGreatDoor
/-
 solve.Rank; the law SolveRanks.
-/
namespace Go.Proofs.YtdnodlkdndfplaaGreatDoor
open Go.Am Go.Tx Dv Go.Lib La
set_option maxRecDepth 100000
theorem ZfU {n k:Nat} {P:List Nat→Bool}: ∀ {N:Nat},ZoJ n k P N=true↔ ∃s,s<N∧(ZaV n s).length=k∧P (ZaV n s)=true
 |0=>⟨fun h=>(by cases h),fun⟨s,h,_⟩=>absurd h (Nat.not_lt_zero s)⟩
 |N+1=>by
  rw[ZoJ,Bool.or_eq_true,Bool.and_eq_true,decide_eq_true_eq,ZfU]
  constructor
  ·rintro(⟨s,h1,h2,h3⟩|⟨h1,h2⟩)
   ·exact⟨s,by omega,h2,h3⟩
   ·exact⟨N,by omega,h1,h2⟩
  ·rintro⟨s,h1,h2,h3⟩
   by_cases e:s=N
   ·subst e;exact .inr ⟨h2,h3⟩
   ·exact .inl ⟨s,by omega,h2,h3⟩
theorem Zsu {n s:Nat} (hs:s<2^n):ZaV n (s+2^n)=ZaV n s:=by
 refine List.filter_congr fun i hi=> ?_
 have hi:=List.mem_range.1 hi
 obtain⟨d,rfl⟩: ∃d,n=i+1+d:=⟨n-(i+1),by omega⟩
 have e:2^(i+1+d)=2^i*(2*2^d):=by rw[Nat.pow_add,Nat.pow_succ,Nat.mul_assoc]
 rw[e,Nat.add_mul_div_left _ _ (Nat.pow_pos (by decide)),Nat.add_mul_mod_self_left]
theorem ZtT {k:Nat} {f:Nat→Nat} (hf: ∀i,i+1<k→f i<f (i+1)): ∀n,∃j s,j≤k∧s<2^n∧(∀t,t<j→f t<n)∧(∀t,j≤t→t<k→n≤f t)∧ZaV n s=(List.range j).map f
 |0=>⟨0,0,Nat.zero_le _,by decide,fun t h=>absurd h (Nat.not_lt_zero t),fun t _ _=>Nat.zero_le _,rfl⟩
 |n+1=>by
  obtain⟨j,s,hj,hs,h1,h2,h3⟩:=ZtT hf n
  have hp:2^(n+1)=2^n+2^n:=by rw[Nat.pow_succ];omega
  by_cases hc:j<k∧f j=n
  ·refine⟨j+1,s+2^n,by omega,by rw[hp];omega,fun t ht=> ?_,fun t ht htk=> ?_, ?_⟩
   ·by_cases e:t=j
    ·rw[e,hc.2];omega
    ·have:=h1 t (by omega);omega
   ·have:=ZtY hf (t-j-1) j (by omega)
    rw[show j+(t-j-1)+1=t by omega,hc.2]at this
    exact this
   ·rw[ZeM,Zsu hs,h3,if_pos (by rw[Nat.add_div_right _ (Nat.pow_pos (by decide)),Nat.div_eq_of_lt hs]),List.range_succ,List.map_append]
    rw[←hc.2];rfl
  ·refine⟨j,s,hj,by rw[hp];omega,fun t ht=>by have:=h1 t ht;omega,fun t ht htk=> ?_, ?_⟩
   ·have h4:=h2 t ht htk
    have:f t≠n:=fun e=>by
     by_cases e2:t=j
     ·subst e2;exact hc ⟨htk,e⟩
     ·have h5:=ZtY hf (t-j-1) j (by omega)
      rw[show j+(t-j-1)+1=t by omega]at h5
      have:=h2 j (Nat.le_refl _) (by omega)
      omega
    omega
   ·rw[ZeM,h3,if_neg (by rw[Nat.div_eq_of_lt hs];decide),List.append_nil]
theorem ZpA {n k:Nat} {f:Nat→Nat} (hf: ∀i,i+1<k→f i<f (i+1)) (hn: ∀i,i<k→f i<n): ∃s,s<2^n∧ZaV n s=(List.range k).map f:=by
 obtain⟨j,s,hj,hs,h1,h2,h3⟩:=ZtT hf n
 have e:j=k:=by
  refine Classical.byContradiction fun h=> ?_
  have h4:=h2 j (Nat.le_refl _) (by omega)
  have:=hn j (by omega)
  omega
 exact⟨s,hs,by rw[←e];exact h3⟩
theorem ZrA {pss:List (List Rat)} {rows cols:List Nat} {i j:Nat} (hi:i<rows.length) (hj:j<cols.length):mxQ (Zjd pss rows cols) i j=mxQ pss rows[i] cols[j]:=by
 show((Zjd pss rows cols).getD i []).getD j 0=_
 rw[Zjd,List.getD_eq_getElem?_getD,List.getD_eq_getElem?_getD,List.getElem?_map,List.getElem?_eq_getElem hi,Option.map_some,Option.getD_some,List.getElem?_map,List.getElem?_eq_getElem hj]
 rfl
theorem ZqY {pss:List (List Rat)} {n W k:Nat} (h:Zgh pss n W k=true): ∃g:Nat→Nat,(∀j,j<k→g j<W)∧Zbt n k g (mxQ pss):=by
 obtain⟨s,_,h1,h2⟩:=ZfU.1 h
 obtain⟨t,_,h3,h4⟩:=ZfU.1 h2
 refine⟨fun j=>(ZaV W t).getD j 0,fun j hj=> ?_,fun i=>(ZaV n s).getD i 0,fun i hi=> ?_, ?_⟩
 ·show(ZaV W t).getD j 0<W
  rw[List.getD_eq_getElem?_getD,List.getElem?_eq_getElem (by omega),Option.getD_some]
  exact ZhN (List.getElem_mem _)
 ·show(ZaV n s).getD i 0<n
  rw[List.getD_eq_getElem?_getD,List.getElem?_eq_getElem (by omega),Option.getD_some]
  exact ZhN (List.getElem_mem _)
 ·rw[ZyF,Bool.not_eq_true',decide_eq_false_iff_not]at h4
  intro h0
  apply h4
  rw[←h0]
  refine ZaU fun i j hi hj=> ?_
  rw[ZrA (by omega) (by omega)]
  show _=mxQ pss ((ZaV n s).getD i 0) ((ZaV W t).getD j 0)
  rw[List.getD_eq_getElem?_getD,List.getD_eq_getElem?_getD,List.getElem?_eq_getElem (by omega),List.getElem?_eq_getElem (by omega)]
  rfl
theorem Zqq {pss:List (List Rat)} {n W k:Nat} {g:Nat→Nat} (hg: ∀j,j<k→g j<W) (hgi: ∀j,j+1<k→g j<g (j+1)) (h:Zbt n k g (mxQ pss)):Zgh pss n W k=true:=by
 obtain⟨f,h1,h2⟩:=h
 obtain⟨f',f1,f2,f3⟩:=Zoo _ f rfl h1 h2
 obtain⟨s,s1,s2⟩:=ZpA f2 f1
 obtain⟨t,t1,t2⟩:=ZpA hgi hg
 refine ZfU.2 ⟨s,s1,by rw[s2,List.length_map,List.length_range],ZfU.2 ⟨t,t1,by rw[t2,List.length_map,List.length_range], ?_⟩⟩
 rw[s2,t2,ZyF,Bool.not_eq_true',decide_eq_false_iff_not]
 intro h0
 apply f3
 rw[←h0]
 refine ZaU fun i j hi hj=> ?_
 rw[ZrA (by rw[List.length_map,List.length_range];exact hi) (by rw[List.length_map,List.length_range];exact hj),List.getElem_map,List.getElem_map,List.getElem_range,List.getElem_range]
theorem Zuw {pss:List (List Rat)} {n W R:Nat} {p:List Nat} {N:Mx} (hE:Elm n W (mxQ pss) W p N) (h1:R≤min n W) (h2:R=0∨Zgh pss n W R=true) (h3: ∀K,R<K→K≤min n W→Zgh pss n W K=false):R=p.length:=by
 have hle:R≤p.length:=by
  rcases h2 with rfl|h2
  ·exact Nat.zero_le _
  ·obtain⟨g,g1,g2⟩:=ZqY h2
   refine Classical.byContradiction fun h=> ?_
   exact hE.ech.noMinor g1 (by omega) ((hE.req.min R g g1).1 g2)
 refine Classical.byContradiction fun h=> ?_
 have hm:=hE.ech.minor
 have hlt: ∀j,j<p.length→(fun t=>p.getD t 0) j<W:=fun j hj=>hE.ech.lt j hj
 have hreg:=Zqq hlt (fun j hj=>hE.ech.inc j (j+1) (Nat.lt_succ_self j) hj) ((hE.req.min _ _ hlt).2 hm)
 have:=h3 p.length (by omega) (by have:=hE.ech.mn;have:=hE.ech.le;omega)
 rw[hreg]at this;cases this
def ZAz (m:List (List (List UInt8))) (r e:Int):Prop:=
 (decide (Zlo m=0)=false∧r=0∧e=Zlo m)∨(Zlo m=0∧e=0∧ ∃pss,Mat m pss∧ ∃N p,Elm pss.length (Zm3 pss) (mxQ pss) (Zm3 pss) p N∧r=(p.length:Int))
theorem Zya {pss:List (List Rat)} (h: ∀ps∈pss,ps.length=0):Zsq pss=List.replicate pss.length []:=by
 rw[Zwi h]
 apply List.ext_getElem?
 intro i
 by_cases hi:i<pss.length
 ·rw[Zkg hi,List.getElem?_replicate,if_pos hi];rfl
 ·rw[List.getElem?_eq_none (by rw[ZaN];omega),List.getElem?_eq_none (by rw[List.length_replicate];omega)]
def ZBl (m:List (List (List UInt8))):Prop:= ∀v∈m,∀a∈v,a.length≤9223372036854775806
theorem Zzj (n:Nat) (hn:n≤1000) (m:List (List (List UInt8))):PureOK Tryz.prog Zam 17 [.v (.i .i64) (n:Int), .v (.l (.l (.l .s))) (sub [m] 0 1)] (fun V=>V= .v .b (Zi8 (n:Int) [m])):=
 ZzX (n:Int) [m] (show 1≤1000 by decide) fun x _ h1=>⟨by omega,fun v _ h2=>by omega⟩
theorem ZBC (m:List (List (List UInt8))) (pss:List (List Rat)) (hM:Mat m pss):PureOK Tryz.prog Zam 67 [.v (.l (.l qct)) (Zsq pss)] (fun V=> ∃N p,Elm pss.length (Zm3 pss) (mxQ pss) (Zm3 pss) p N∧V=nt p.length):=by
 have hl:=hM.len
 have hw:=hM.wid
 by_cases hW:Zm3 pss=0
 ·rw[Zya fun ps h=>(hM.row ps h).trans hW]
  refine(ZwW pss.length (by omega)).mono ?_
  rintro _ rfl
  rw[hW]
  exact⟨mxQ pss,[],Elm.start fun _ _ _ _=>rfl,rfl⟩
 ·have hn:1≤pss.length:=by
   cases pss with
   |nil=>exact absurd rfl hW
   |cons _ _=>exact Nat.succ_pos _
  rw[Zwi hM.row]
  exact ZxD pss.length (Zm3 pss) 20000000 (mxQ pss) (by omega) hn (by omega) (by omega) (by decide) (Zy4 hl (by omega) fun i j hi hj=>by
   obtain⟨ps,h1,h2⟩:=Zoe (i:=i) hM.row hi hj
   exact hM.fit ps h1 _ h2)
set_option maxHeartbeats 8000000 in
theorem Zyp (m:List (List (List UInt8))) (hs:ZBl m):PureOK Tryz.prog Zam 21 [.v (.l (.l .s)) m] (fun V=> ∃r e,V= .tup [.v (.i .i64) r, .v (.i .i64) e]∧ZAz m r e):=by
 refine Zab Zaa Tryz.func21 ?_
 have hC:=Zv3 m hs
 refine Zat ?_
 iterate 2 refine Zah ?_
 refine Zas ?_
 refine Zat ?_
 refine Zah ?_
 refine Zaj rfl ((hC).mono ?_)
 rintro _ rfl
 refine Zac rfl rfl ?_
 refine Zah ?_
 refine Zas ?_
 cases h0:decide (Zlo m=0)with
 |false=>
  have h1:(!decide (Zlo m=0))=true:=by rw[h0];rfl
  refine Zat ?_
  iterate 2 refine Zah ?_
  refine Zas ?_
  refine brT h1 ?_
  refine Zat ?_
  iterate 3 refine Zah ?_
  refine Zas ?_
  exact⟨0,Zlo m,rfl, .inl ⟨h0,rfl,rfl⟩⟩
 |true=>
  have h1:(!decide (Zlo m=0))=false:=by rw[h0];rfl
  obtain⟨pss,hM⟩:=ZrC (of_decide_eq_true h0)
  have hV:=ZvJ pss (by have:=hM.len;omega) (fun ps h=>by have:=hM.row ps h;have:=hM.wid;omega) hM.fit
  rw[←hM.txt]at hV
  have hR:=ZBC m pss hM
  refine Zat ?_
  iterate 2 refine Zah ?_
  refine Zas ?_
  refine brF h1 ?_
  refine Zat ?_
  refine Zah ?_
  refine Zaj rfl ((hV).mono ?_)
  rintro _ rfl
  refine Zac rfl rfl ?_
  refine Zaj rfl ((hR).mono ?_)
  rintro _ ⟨N,p,hE,rfl⟩
  refine Zac rfl rfl ?_
  iterate 2 refine Zah ?_
  refine Zas ?_
  exact⟨_,0,rfl, .inr ⟨of_decide_eq_true h0,rfl,pss,hM,N,p,hE,rfl⟩⟩
set_option maxHeartbeats 16000000 in
theorem ZlC (m:List (List (List UInt8))) (hs:ZBl m):PureOK Tryz.prog Zam 4 [.v (.l (.l .s)) m] (fun V=>V= .v .b true):=by
 refine Zab Zaa Tryz.func4 ?_
 have hF:=Zon
 have hS:=Zyp m hs
 have hE:=ZkZ m hs
 refine Zat ?_
 refine Zah ?_
 refine Zas ?_
 refine Zat ?_
 refine Zaj rfl ((hF).mono ?_)
 rintro _ rfl
 refine Zac rfl rfl ?_
 refine Zah ?_
 refine Zas ?_
 refine brF rfl ?_
 refine Zat ?_
 refine Zah ?_
 refine Zaj rfl ((hS).mono ?_)
 rintro _ ⟨r,e,rfl,hD⟩
 refine Zac rfl rfl ?_
 iterate 5 refine Zah ?_
 refine Zas ?_
 refine Zat ?_
 refine Zah ?_
 refine Zaj rfl ((hE).mono ?_)
 rintro _ rfl
 refine Zac rfl rfl ?_
 refine Zah ?_
 refine Zas ?_
 cases h0:decide (Zlo m=0)with
 |false=>
  have h1:(!decide (Zlo m=0))=true:=by rw[h0];rfl
  have h2:decide (Zlo m=Zlo m)=true:=decide_eq_true rfl
  rcases hD with⟨_,rfl,rfl⟩|⟨h3,_⟩
  ·skip
   refine Zat ?_
   iterate 2 refine Zah ?_
   refine Zas ?_
   refine brT h1 ?_
   refine Zat ?_
   iterate 4 refine Zah ?_
   refine Zaf h2 ?_
   refine Zaf h2 ?_
   refine Zbb h2 ?_
   refine Zah ?_
   refine Zas ?_
   rfl
  ·exact absurd h3 (of_decide_eq_false h0)
 |true=>
  have h1:(!decide (Zlo m=0))=false:=by rw[h0];rfl
  have hV:=Zzj 4 (by decide) m
  rcases hD with⟨h3,_⟩|⟨_,rfl,pss,hM,N,p,hEl,rfl⟩
  ·rw[h0]at h3;cases h3
  ·skip
   refine Zat ?_
   iterate 2 refine Zah ?_
   refine Zas ?_
   refine brF h1 ?_
   cases hv:Zi8 4 [m]with
   |true=>
    refine Zat ?_
    refine Zah ?_
    refine Zqp ?_
    refine Zaj rfl (And.intro (show 0+1≤1 by decide) ((hV).mono ?_))
    rintro _ rfl
    refine Zac rfl rfl ?_
    refine Zah ?_
    refine ZaH hv ?_
    refine ZaH hv ?_
    refine ZaH hv ?_
    refine Ze6 ?_
    refine Ze6 ?_
    refine Ze6 ?_
    refine Ze6 ?_
    refine ZaH hv ?_
    refine Zbb hv ?_
    refine Zah ?_
    refine Zas ?_
    rfl
   |false=>
    obtain⟨s1,s2,s3⟩:=ZvI (n:=4) (pss:=pss) hv (by rw[←hM.txt];exact List.mem_cons_self)
    have hW4:Zm3 pss≤4:=by
     cases pss with
     |nil=>exact Nat.zero_le _
     |cons ps l=>have:=s2 ps List.mem_cons_self;exact this
    have hRR:=ZxK pss (Zm3 pss) rfl hM.row (by omega) (by omega) s3
    rw[←hM.txt]at hRR
    have hRR':=hRR.mono (Q':=fun V=>V=nt p.length) (by
     rintro _ ⟨R,rfl,g1,g2,g3⟩
     rw[Zuw hEl g1 g2 g3])
    have hq:decide ((p.length:Int)=(p.length:Int))=true:=decide_eq_true rfl
    refine Zat ?_
    refine Zah ?_
    refine Zqp ?_
    refine Zaj rfl (And.intro (show 0+1≤1 by decide) ((hV).mono ?_))
    rintro _ rfl
    refine Zac rfl rfl ?_
    refine Zah ?_
    refine Zaf hv ?_
    refine Zaf hv ?_
    refine Zaf hv ?_
    refine Zaf rfl ?_
    refine Zaf rfl ?_
    refine ZaL rfl rfl rfl rfl ((hRR').mono ?_)
    rintro _ rfl
    refine Zac rfl rfl ?_
    refine Zaf rfl ?_
    refine ZcI rfl rfl rfl hv rfl rfl rfl rfl rfl rfl ?_
    refine ZaS hv ?_
    refine Zah ?_
    refine Zas ?_
    exact congrArg (fun x=>SV.v .b x) hq
end Go.Proofs.YtdnodlkdndfplaaGreatDoor
/-
 What all laws of the seat share: from a walk's result to the given statement.
-/
namespace Go.Proofs.YtdnodlkdndfplaaGreatDoor
open Go.Am Go.Tx
set_option maxRecDepth 100000
theorem ZBx:ownKnob Tryz.prog.godebug=none:=by kernel_rfl
theorem Zuq:laidOutB Tryz.prog=true:=by kernel_rfl
abbrev ZeS:List (String×DataW Unit):=Rows.solveRanksRow.laid
theorem Zxr {W:World} (h:laidMetH Tryz.prog ZeS W):Lib.TabIs Tryz.prog W Zea .u64 Lib.pow10Tab:=by
 have h1:=laidMetH.filter (fun x=>x.1==Zea) h
 rw[MakeChecks.laidMetH_plain _ _ _ (by kernel_rfl)]at h1
 exact Lib.tabIs_of_head (rest:=[]) (g:=3) (t:=232) (e:=172) (n:=20) (by kernel_rfl) (by kernel_rfl) (by kernel_rfl) (by kernel_rfl) (by kernel_rfl) (by kernel_rfl) h1
theorem Zzf {W:World} (h:laidMetH Tryz.prog ZeS W):natLaid.ok (fun b=>b<W.heap.size) W:=by
 have ht:=Zxr h
 refine⟨3,by kernel_rfl, ?_,ht⟩
 unfold Lib.TabIs World.var? at ht
 have hg:Tryz.prog.globalNamed Zea=some 3:=by kernel_rfl
 rw[hg,Option.bind_some]at ht
 cases hb:W.heap[3]? with
 |none=>rw[hb]at ht;simp at ht
 |some o=>exact(Array.getElem?_eq_some_iff.1 hb).1
theorem Zp7 {n:Nat} {H:List Mem} {v:PV} {b:Bool} (h:exp n H v=some (.bool b)):v= .bool b:=by
 cases n with
 |zero=>simp[exp]at h
 |succ n=>cases v<;>simp only[exp]at h<;>first|(exact Option.some.inj h)|(cases h;done)|(rename_i a b c d;cases hx:H[a]? with
  |none=>rw[hx]at h;cases h
  |some m=>cases m<;>rw[hx]at h<;>simp only at h<;>first|(cases h;done)|(split at h<;>simp at h))|(rename_i a b c;cases hx:H[a]? with
  |none=>rw[hx]at h;cases h
  |some m=>cases m<;>rw[hx]at h<;>simp only at h<;>first|(cases h;done)|(simp[Option.bind_eq_some_iff]at h))|(simp[Option.bind_eq_some_iff]at h)
theorem ZuE {f:FuncId} {Vs:List SV} {qs:List PV} (hp:Zam.prim f=none) (h:PureOK Tryz.prog Zam f Vs (fun V=>V= .v .b true)) (hr:RL [] Vs qs): ∃n H',(Zey Tryz.prog Zam n).rn f qs []=some (.bool true,H'):=by
 obtain⟨q,V,h1,h2,rfl⟩:=h.out qs hr
 simp only[RV,RR]at h2
 have hq:q= .bool true:=by simpa using h2
 subst hq
 unfold Zbr at h1
 rw[hp]at h1
 obtain⟨⟨v,H'⟩,h3,h4⟩:=Option.bind_eq_some_iff.1 h1
 have hv:=Zp7 h4
 simp only at hv
 subst hv
 obtain⟨k,hk⟩:=ZsP h3
 exact⟨k,H',hk⟩
end Go.Proofs.YtdnodlkdndfplaaGreatDoor
/-
 Arguments that are lists of lists of texts; lengths of arguments.
-/
namespace Go.Proofs.YtdnodlkdndfplaaGreatDoor
open Go.Am Go.Tx
theorem Zp1 {ct:CT} {t:Ty} {good:ct.D→Prop} (hc: ∀c,ZcW t c→ ∃x:ct.D,RR ct x c∧good x): ∀ {es:List (List PV)},(∀c∈es,ZcW t c)→ ∃l:List ct.D,All2 (RR ct) l es∧(∀x∈l,good x)∧l.length=es.length
 | [],_=>⟨[],trivial,fun _ h=>absurd h List.not_mem_nil,rfl⟩
 |c::es,h=>by
  obtain⟨x,h1,h2⟩:=hc c (h c List.mem_cons_self)
  obtain⟨l,h3,h4,h5⟩:=Zp1 hc (es:=es) (fun d hd=>h d (List.mem_cons_of_mem _ hd))
  refine⟨x::l,⟨h1,h3⟩,fun y hy=> ?_,by rw[List.length_cons,List.length_cons,h5]⟩
  rcases List.mem_cons.1 hy with rfl|hy
  ·exact h2
  ·exact h4 y hy
theorem Zl4 {ct:CT} {t:Ty} {good:ct.D→Prop} {n:Nat} (hn:16≤n) (hc: ∀c,ZcW t c→ ∃x:ct.D,RR ct x c∧good x): ∀c,ZcW (.slice t n) c→ ∃l:List ct.D,RR (.l ct) l c∧(∀x∈l,good x)∧l.length≤8796093021952:=by
 intro c h
 simp only[ZcW]at h
 rcases h with rfl|⟨es,rfl,_,h3,h4⟩
 ·exact⟨[],by simp[RR],fun _ h=>absurd h List.not_mem_nil,Nat.zero_le _⟩
 ·obtain⟨l,h5,h6,h7⟩:=Zp1 hc h4
  refine⟨l,by simp only[RR];exact .inr ⟨es,rfl,h5⟩,h6, ?_⟩
  have e:reachBytes=140737488351232:=rfl
  have:es.length*16≤es.length*n:=Nat.mul_le_mul_left _ hn
  omega
theorem ZvO (c:List PV) (h:ZcW .str c): ∃a:List UInt8,RR .s a c∧a.length≤9223372036854775806:=by
 simp only[ZcW]at h
 obtain⟨s,rfl,h2⟩:=h
 refine⟨s.data.toList,by simp only[RR], ?_⟩
 have h5:s.data.toList.length=s.size:=Array.length_toList
 have h6:reachBytes=140737488351232:=rfl
 omega
theorem Zx7 {p:PV} (hs:Zsl (.slice (.slice .str 16) 24) p): ∃l:List (List (List UInt8)),RV [] (.v (.l (.l .s)) l) p∧ ∀r∈l,∀a∈r,a.length≤9223372036854775806:=by
 obtain⟨l,h1,h2,_⟩:=Zl4 (ct:= .l .s) (n:=24) (by decide) (fun c h=>by
  obtain⟨r,h1,h2,_⟩:=Zl4 (ct:= .s) (n:=16) (Nat.le_refl _) ZvO c h
  exact⟨r,h1,h2⟩) [p] hs
 exact⟨l,h1,h2⟩
end Go.Proofs.YtdnodlkdndfplaaGreatDoor
