/-
 Loops of lin.Det.
-/
import Derived.Test.YtdnodlkdndfplaaGreatDoorMK
import Derived.Test.YtdnodlkdndfplaaGreatDoorLd
set_option linter.constructorNameAsVariable false
set_option linter.unusedSimpArgs false
set_option linter.unusedVariables false
namespace Go.Proofs.YtdnodlkdndfplaaGreatDoor
open Go.Am Go.Tx Dv Go.Lib La
set_option maxRecDepth 100000
def cxD:Cx:=⟨73,0,132⟩
theorem Zr1 {α:Type} {f:Nat→Nat}: ∀ {p:Nat} {xs:List (List α)},(∀i,p≤i→i<p+xs.length→f i=i+1)→rnL f (Za4 p xs)=Za4 (p+1) xs
 |_,[],_=>rfl
 |p,x::r,h=>by
  rw[Za4,rnL,Za4,Zr1 fun i h1 h2=>h i (by omega) (by rw[List.length_cons];omega),rnV,h p (Nat.le_refl _) (by rw[List.length_cons];omega)]
theorem ZwU {n W:Nat} {g:Nat→Nat→Rat} {tm tm':TM} {c:SM} (hc:Zk3 c=[]) (htm:Zx3 (fun j=>if j=n+1 then 0 else j+1) (n+2) tm tm'):Ent 0 tm ([c]++(.many (.l qct) (Za4 2 (Zcm n W g)) true::Zbo qct (Zcm n W g))) tm' (hpM n W g [c]):=by
 have hl:(hpM n W g [c]).length=n+2:=Zd4
 have hl0:([c]++(SM.many (.l qct) (Za4 2 (Zcm n W g)) true::Zbo qct (Zcm n W g))).length=n+2:=by rw[List.length_append];show 1+((Zbo qct (Zcm n W g)).length+1)=_;rw[ZaL,ZaQ];omega
 refine Zm5 (fun j=>if j=n+1 then 0 else j+1) (Nat.zero_le _) (fun j hj=>absurd hj (Nat.not_lt_zero j)) (fun j hj=> ?_) (fun i j hi hj h=> ?_) (by rw[hl];exact htm) fun j m hm=> ?_
 ·rw[hl]at hj;rw[hl0];show(if j=n+1 then 0 else j+1)<_;split<;>omega
 ·rw[hl]at hi hj
  have h:(if i=n+1 then 0 else i+1)=(if j=n+1 then 0 else j+1):=h
  repeat' split at h
  all_goals omega
 ·right
  have hjl:=(List.getElem?_eq_some_iff.1 hm).1
  rw[hl]at hjl⊢
  by_cases e0:j=0
  ·subst e0
   have hm:some (SM.many (.l qct) (Za4 1 (Zcm n W g)) true)=some m:=hm
   cases hm
   refine⟨?_,fun id hid=> ?_⟩
   ·show some (SM.many (.l qct) (Za4 2 (Zcm n W g)) true)=some (rnM _ _)
    rw[rnM,Zr1 fun i h1 h2=>if_neg (by rw[ZaQ]at h2;omega)]
   ·have:=Zf5 (by simpa only[Zk3]using hid)
    rw[ZaQ]at this;omega
  ·by_cases e1:j=n+1
   ·subst e1
    have h1:(hpM n W g [c])[n+1]? =some c:=by rw[←ZaT];exact ZeY (e:=0)
    rw[h1]at hm;cases hm
    refine⟨?_,fun id hid=>by rw[hc]at hid;exact absurd hid List.not_mem_nil⟩
    show([c]++_)[if n+1=n+1 then 0 else n+1+1]? =_
    rw[if_pos rfl,Zs1 (p:=0) (fun j hj=>absurd hj (Nat.not_lt_zero j)) c (fun id hid=>by rw[hc]at hid;exact absurd hid List.not_mem_nil)]
    rfl
   ·obtain⟨i,rfl⟩: ∃i,j=i+1:=⟨j-1,by omega⟩
    have hi:i<n:=by omega
    have h1:(hpM n W g [c])[i+1]? =some (.row qct (ZlP W (g i)) true):=by rw[←ZaT];exact Ze7 hi
    rw[h1]at hm;cases hm
    refine⟨?_,fun id hid=>absurd hid List.not_mem_nil⟩
    show([c]++(SM.many (.l qct) (Za4 2 (Zcm n W g)) true::Zbo qct (Zcm n W g)))[if i+1=n+1 then 0 else i+1+1]? =some (.row qct (ZlP W (g i)) true)
    rw[if_neg (by omega)]
    show(Zbo qct (Zcm n W g))[i]? =_
    rw[Zbo,List.getElem?_map,ZjS hi];rfl
def vF1 (n k q:Nat):TM:=[(0, .ref 0 0 n none),(2, .ptr (n+1) 0 0),(3, .ptr (n+2) 0 0),(4,nt k),(5,nt q),(13,nt n),(14,nt k)]
set_option maxHeartbeats 8000000 in
theorem Zzv (n k:Nat) (f:Nat→Nat→Rat) (ex:List SM) (hn:n≤1000) (hk:k<n):
 LoopOK Tryz.prog Zaw 0 cxD (ZcX Tryz.f73 7) (vF1 n k k) (hpM n n f ex)
 (fun e tm hp=>e= .exit 2∧ ∃q,k≤q∧q≤n∧(∀i,k≤i→i<q→f i k=0)∧(q<n→f q k≠0)∧tm=vF1 n k q∧hp=hpM n n f ex):=by
 refine LoopOK.through (k:=fun e tm hp=>e= .exit 2∧ ∃q,k≤q∧q≤n∧(∀i,k≤i→i<q→f i k=0)∧(q<n→f q k≠0)∧Ent 0 tm hp (vF1 n k q) (hpM n n f ex)) ?_ (by
  rintro e tm hp ⟨rfl,q,h1,h2,h3,h4,h5⟩
  exact⟨_,_,h5,rfl,q,h1,h2,h3,h4,rfl,rfl⟩)
 refine Zaz Zal rfl (vF1 n k) (fun _=>hpM n n f ex) (fun q=>k≤q∧q≤n∧ ∀i,k≤i→i<q→f i k=0) (fun q=>n-q) ?_ k ⟨Nat.le_refl _,by omega,fun i h1 h2=>absurd h2 (by omega)⟩ ZbC
 rintro q ⟨h1,h2,h3⟩
 have hA:nth (hpM n n f ex) 0=some (.many (.l qct) (Za4 1 (Zcm n n f)) true):=rfl
 cases hc:decide ((q:Int)<(n:Int))with
 |false=>
  have hq:q=n:=by have:=of_decide_eq_false hc;omega
  repeat (first|refine Zag ?_|refine Zae ?_|refine Zad ?_)
  first|refine Zab (Zaa (id:=7) rfl ?_)|refine Zab (Zab (Zaa (id:=7) rfl ?_))|refine Zaa (id:=7) rfl ?_|refine Zab (Zac rfl (Zab (Zaa (id:=7) rfl ?_)))|refine Zab (Zac rfl (Zab (Zab (Zaa (id:=7) rfl ?_))))|refine Zac rfl (Zab (Zab (Zaa (id:=7) rfl ?_)))|refine Zac rfl (Zab (Zaa (id:=7) rfl ?_))|refine Zab (Zac rfl (Zaa (id:=7) rfl ?_))|refine Zac rfl (Zaa (id:=7) rfl ?_)
  refine Zaf rfl (fun _=>rfl) rfl rfl ?_
  refine Zaf rfl (fun _=>rfl) rfl rfl ?_
  refine Zaf rfl (fun _=>rfl) rfl rfl ?_
  refine Zaf rfl (fun _=>rfl) rfl rfl ?_
  refine Zaf rfl (fun _=>rfl) rfl rfl ?_
  refine Zai rfl rfl rfl hc rfl rfl ?_
  refine Zai rfl rfl rfl hc rfl rfl ?_
  refine Zai rfl rfl rfl hc rfl rfl ?_
  refine Zai rfl rfl rfl hc rfl rfl ?_
  refine Zai rfl rfl rfl hc rfl rfl ?_
  refine Zai rfl rfl rfl hc rfl rfl ?_
  refine Zai rfl rfl rfl hc rfl rfl ?_
  refine Zai rfl rfl rfl hc rfl rfl ?_
  refine Zai rfl rfl rfl hc rfl rfl ?_
  refine ZaC rfl rfl rfl hc rfl rfl rfl ?_
  refine Zah ?_
  repeat (first|refine Zae ?_|refine Zad ?_)
  refine And.intro (fun h=>by first|(cases h;done)|exact(nf h hc).elim) (fun _=> ?_)
  exact⟨rfl,q,h1,h2,h3,fun h=>absurd h (by omega),ZaO ⟨rfl,rfl,rfl,rfl,rfl,rfl,rfl,trivial⟩⟩
 |true=>
  have hlt:q<n:=by have:=of_decide_eq_true hc;omega
  have cq:=cin hlt
  have ck:=cin hk
  have hel:=Zee (W:=n) (f:=f) (p:=1) hlt
  have hrow:=Ze7 (W:=n) (f:=f) (ex:=ex) hlt
  have hcell:=Zjf (u:=f q) hk
  have hS:=ZrO (f q k)
  cases hz:decide ((f q k).num.sign=0)with
  |true=>
   repeat (first|refine Zag ?_|refine Zae ?_|refine Zad ?_)
   first|refine Zab (Zaa (id:=7) rfl ?_)|refine Zab (Zab (Zaa (id:=7) rfl ?_))|refine Zaa (id:=7) rfl ?_|refine Zab (Zac rfl (Zab (Zaa (id:=7) rfl ?_)))|refine Zab (Zac rfl (Zab (Zab (Zaa (id:=7) rfl ?_))))|refine Zac rfl (Zab (Zab (Zaa (id:=7) rfl ?_)))|refine Zac rfl (Zab (Zaa (id:=7) rfl ?_))|refine Zab (Zac rfl (Zaa (id:=7) rfl ?_))|refine Zac rfl (Zaa (id:=7) rfl ?_)
   refine Zaf rfl (fun _=>rfl) rfl rfl ?_
   refine Zaf rfl (fun _=>rfl) rfl rfl ?_
   refine Zaf rfl (fun _=>rfl) rfl rfl ?_
   refine Zaf rfl (fun _=>rfl) rfl rfl ?_
   refine Zaf rfl (fun _=>rfl) rfl rfl ?_
   refine Zaj rfl rfl rfl hc (fun _=>rfl) rfl rfl ?_
   refine Zaj rfl rfl rfl hc (fun _=>rfl) rfl rfl ?_
   refine Za6 rfl rfl rfl hc (ZaZ rfl rfl rfl rfl rfl hA rfl cq ?_)
   refine Zam rfl rfl ?_
   refine Za6 rfl rfl rfl hc (Zbj rfl rfl hA hel rfl ?_)
   refine Zam rfl rfl ?_
   refine Zaj rfl rfl rfl hc (fun _=>rfl) rfl rfl ?_
   refine Za6 rfl rfl rfl hc (Zcc rfl rfl rfl rfl rfl hrow rfl ck ?_)
   refine Zam rfl rfl ?_
   refine Za6 rfl rfl rfl hc (ZcD (V:=QR (f q k)) rfl rfl hrow hcell rfl ?_)
   refine Zam rfl rfl ?_
   refine Za6 rfl rfl rfl hc ((hS).mono ?_)
   rintro _ rfl
   refine Zam rfl rfl ?_
   refine Zaj rfl rfl rfl hc (fun _=>rfl) rfl rfl ?_
   refine ZaJ rfl rfl rfl hc rfl rfl rfl ?_
   refine Zah ?_
   repeat (first|refine Zae ?_|refine Zad ?_)
   refine And.intro (fun _=> ?_) (fun h=>by first|(cases h;done)|exact(nf hz h).elim)
   repeat (first|refine Zag ?_|refine Zae ?_|refine Zad ?_)
   first|refine Zab (Zaa (id:=8) rfl ?_)|refine Zab (Zab (Zaa (id:=8) rfl ?_))|refine Zaa (id:=8) rfl ?_|refine Zab (Zac rfl (Zab (Zaa (id:=8) rfl ?_)))|refine Zab (Zac rfl (Zab (Zab (Zaa (id:=8) rfl ?_))))|refine Zac rfl (Zab (Zab (Zaa (id:=8) rfl ?_)))|refine Zac rfl (Zab (Zaa (id:=8) rfl ?_))|refine Zab (Zac rfl (Zaa (id:=8) rfl ?_))|refine Zac rfl (Zaa (id:=8) rfl ?_)
   refine Zaf rfl (fun _=>rfl) rfl rfl ?_
   refine Zaf rfl (fun _=>rfl) rfl rfl ?_
   refine Zaf rfl (fun _=>rfl) rfl rfl ?_
   refine Zah ?_
   repeat (first|refine Zae ?_|refine Zad ?_)
   refine⟨q+1,⟨by omega,hlt,fun i g1 g2=> ?_⟩,by show n-(q+1)<n-q;omega, ?_⟩
   ·by_cases e:i=q
    ·rw[e];exact ZAq hz
    ·exact h3 i g1 (by omega)
   ·exact ZaO ⟨rfl,rfl,rfl,rfl,congrArg (fun x=>some (SV.v (.i .i64) x)) (Zp8 (by omega)),rfl,rfl,trivial⟩
  |false=>
   repeat (first|refine Zag ?_|refine Zae ?_|refine Zad ?_)
   first|refine Zab (Zaa (id:=7) rfl ?_)|refine Zab (Zab (Zaa (id:=7) rfl ?_))|refine Zaa (id:=7) rfl ?_|refine Zab (Zac rfl (Zab (Zaa (id:=7) rfl ?_)))|refine Zab (Zac rfl (Zab (Zab (Zaa (id:=7) rfl ?_))))|refine Zac rfl (Zab (Zab (Zaa (id:=7) rfl ?_)))|refine Zac rfl (Zab (Zaa (id:=7) rfl ?_))|refine Zab (Zac rfl (Zaa (id:=7) rfl ?_))|refine Zac rfl (Zaa (id:=7) rfl ?_)
   refine Zaf rfl (fun _=>rfl) rfl rfl ?_
   refine Zaf rfl (fun _=>rfl) rfl rfl ?_
   refine Zaf rfl (fun _=>rfl) rfl rfl ?_
   refine Zaf rfl (fun _=>rfl) rfl rfl ?_
   refine Zaf rfl (fun _=>rfl) rfl rfl ?_
   refine Zaj rfl rfl rfl hc (fun _=>rfl) rfl rfl ?_
   refine Zaj rfl rfl rfl hc (fun _=>rfl) rfl rfl ?_
   refine Za6 rfl rfl rfl hc (ZaZ rfl rfl rfl rfl rfl hA rfl cq ?_)
   refine Zam rfl rfl ?_
   refine Za6 rfl rfl rfl hc (Zbj rfl rfl hA hel rfl ?_)
   refine Zam rfl rfl ?_
   refine Zaj rfl rfl rfl hc (fun _=>rfl) rfl rfl ?_
   refine Za6 rfl rfl rfl hc (Zcc rfl rfl rfl rfl rfl hrow rfl ck ?_)
   refine Zam rfl rfl ?_
   refine Za6 rfl rfl rfl hc (ZcD (V:=QR (f q k)) rfl rfl hrow hcell rfl ?_)
   refine Zam rfl rfl ?_
   refine Za6 rfl rfl rfl hc ((hS).mono ?_)
   rintro _ rfl
   refine Zam rfl rfl ?_
   refine Zaj rfl rfl rfl hc (fun _=>rfl) rfl rfl ?_
   refine ZaJ rfl rfl rfl hc rfl rfl rfl ?_
   refine Zah ?_
   repeat (first|refine Zae ?_|refine Zad ?_)
   refine And.intro (fun h=>by first|(cases h;done)|exact(nf h hz).elim) (fun _=> ?_)
   exact⟨rfl,q,h1,h2,h3,fun _=>ZAO hz,ZaO ⟨rfl,rfl,rfl,rfl,rfl,rfl,rfl,trivial⟩⟩
def vF3 (n k i j:Nat):TM:=[(0, .ref 0 0 n none),(2, .ptr (n+1) 0 0),(3, .ptr (n+2) 0 0),(4,nt k),(6,nt i),(7, .ptr (n+3) 0 0),(8,nt j),(13,nt n),(14,nt k)]
set_option maxHeartbeats 16000000 in
theorem Zx9 (n k i K:Nat) (f g:Nat→Nat→Rat) (c:Rat) (a b:SM) (hn:n≤1000) (hk:k<n) (hi:i<n) (hki:k<i) (hK:K≤30000000) (sf: ∀a j,a<n→j<n→szQ (f a j) K) (sc:szQ c (2*K))
 (hlow: ∀j,j<k→g i j=f i j) (hgm: ∀j,j<n→g k j=f k j) (hg: ∀j,k≤j→j<n→g i j=f i j-c*f k j):
 LoopOK Tryz.prog Zaw 0 cxD (ZcX Tryz.f73 21) (vF3 n k i k) (hpM n n (fC f g i 0) [a,b,cQ c])
 (fun e tm hp=>e= .exit 6∧tm=vF3 n k i n∧hp=hpM n n (fC f g (i+1) 0) [a,b,cQ c]):=by
 have hfull:hpM n n (fC f g i n) [a,b,cQ c]=hpM n n (fC f g (i+1) 0) [a,b,cQ c]:=Zdu fun r s _ hb=>by
  unfold fC
  by_cases h1:r<i
  ·rw[if_pos (.inl h1),if_pos (.inl (by omega))]
  ·by_cases h2:r=i
   ·rw[if_pos (.inr ⟨h2,hb⟩),if_pos (.inl (by omega))]
   ·rw[if_neg (by omega),if_neg (by omega)]
 have hstart:hpM n n (fC f g i 0) [a,b,cQ c]=hpM n n (fC f g i k) [a,b,cQ c]:=Zdu fun r s _ hb=>by
  unfold fC
  by_cases h1:r<i
  ·rw[if_pos (.inl h1),if_pos (.inl h1)]
  ·rw[if_neg (by omega)]
   by_cases h2:r=i∧s<k
   ·rw[if_pos (.inr h2),h2.1,hlow s h2.2]
   ·rw[if_neg (by omega)]
 refine LoopOK.through (k:=fun e tm hp=>e= .exit 6∧Ent 0 tm hp (vF3 n k i n) (hpM n n (fC f g i n) [a,b,cQ c])) ?_ (by
  rintro e tm hp ⟨rfl,h5⟩
  exact⟨_,_,h5,rfl,rfl,hfull⟩)
 refine Zaz Zal rfl (vF3 n k i) (fun j=>hpM n n (fC f g i j) [a,b,cQ c]) (fun j=>k≤j∧j≤n) (fun j=>n-j) ?_ k ⟨Nat.le_refl _,by omega⟩ (Ent.eqs hstart ZbC)
 rintro j ⟨h1,h2⟩
 obtain⟨F,eF⟩: ∃x,fC f g i j=x:=⟨_,rfl⟩
 have hA:nth (hpM n n F [a,b,cQ c]) 0=some (.many (.l qct) (Za4 1 (Zcm n n F)) true):=rfl
 have cm:=cin hk
 have ci:=cin hi
 have hel:=Zee (W:=n) (f:=F) (p:=1) hi
 have helm:=Zee (W:=n) (f:=F) (p:=1) hk
 rw[eF]
 cases hc:decide ((j:Int)<(n:Int))with
 |false=>
  have hj:j=n:=by have:=of_decide_eq_false hc;omega
  repeat (first|refine Zag ?_|refine Zae ?_|refine Zad ?_)
  first|refine Zab (Zaa (id:=21) rfl ?_)|refine Zab (Zab (Zaa (id:=21) rfl ?_))|refine Zaa (id:=21) rfl ?_|refine Zab (Zac rfl (Zab (Zaa (id:=21) rfl ?_)))|refine Zab (Zac rfl (Zab (Zab (Zaa (id:=21) rfl ?_))))|refine Zac rfl (Zab (Zab (Zaa (id:=21) rfl ?_)))|refine Zac rfl (Zab (Zaa (id:=21) rfl ?_))|refine Zab (Zac rfl (Zaa (id:=21) rfl ?_))|refine Zac rfl (Zaa (id:=21) rfl ?_)
  refine Zaf rfl (fun _=>rfl) rfl rfl ?_
  refine Zaf rfl (fun _=>rfl) rfl rfl ?_
  refine Zaf rfl (fun _=>rfl) rfl rfl ?_
  refine Zaf rfl (fun _=>rfl) rfl rfl ?_
  refine Zah ?_
  repeat (first|refine Zae ?_|refine Zad ?_)
  refine And.intro (fun h=>by first|(cases h;done)|exact(nf h hc).elim) (fun _=> ?_)
  subst hj
  rw[eF]
  exact⟨rfl,ZaO ⟨rfl,rfl,rfl,rfl,rfl,rfl,rfl,rfl,rfl,trivial⟩⟩
 |true=>
  have hlt:j<n:=by have:=of_decide_eq_true hc;omega
  have cj:=cin hlt
  have hrow:=Ze7 (W:=n) (f:=F) (ex:=[a,b,cQ c]) hi
  have hrowm:=Ze7 (W:=n) (f:=F) (ex:=[a,b,cQ c]) hk
  have hv:F i j=f i j:=by rw[←eF];exact if_neg (by omega)
  have hvm:F k j=f k j:=by
   rw[←eF]
   show(if _ then _ else _)=_
   split
   ·exact hgm j hlt
   ·rfl
  have hcell:=Zjf (u:=F i) hlt
  have hcellm:=Zjf (u:=F k) hlt
  rw[hv]at hcell
  rw[hvm]at hcellm
  have hcd:nth (hpM n n F [a,b,cQ c]) (n+3)=some (cQ c):=ZeY (e:=2)
  have gij:=hg j h1 hlt
  obtain⟨y,ey⟩: ∃x,f k j=x:=⟨_,rfl⟩
  obtain⟨x,ex⟩: ∃x,f i j=x:=⟨_,rfl⟩
  have sx:szQ x K:=by rw[←ex];exact sf i j hi hlt
  have sy:szQ y K:=by rw[←ey];exact sf k j hk hlt
  rw[ey]at hcellm gij
  rw[ex]at hcell gij
  have hMul:=Zwc c y (k:=2*K) (by omega) sc (ZnE (by omega) sy)
  have hSub:=ZyA x (c*y) (k:=2*K+K) (by omega) (ZnE (by omega) sx) (ZyU sc sy)
  have next: ∀r s,r<n→s<n→(if r=i∧s=j then g i j else F r s)=fC f g i (j+1) r s:=fun r s _ _=>by
   rw[←eF]
   unfold fC
   by_cases h1:r=i∧s=j
   ·rw[if_pos h1,if_pos (.inr (by omega)),h1.1,h1.2]
   ·rw[if_neg h1]
    by_cases h2:r<i∨(r=i∧s<j)
    ·rw[if_pos h2,if_pos (by omega)]
    ·rw[if_neg h2,if_neg (by omega)]
  repeat (first|refine Zag ?_|refine Zae ?_|refine Zad ?_)
  first|refine Zab (Zaa (id:=21) rfl ?_)|refine Zab (Zab (Zaa (id:=21) rfl ?_))|refine Zaa (id:=21) rfl ?_|refine Zab (Zac rfl (Zab (Zaa (id:=21) rfl ?_)))|refine Zab (Zac rfl (Zab (Zab (Zaa (id:=21) rfl ?_))))|refine Zac rfl (Zab (Zab (Zaa (id:=21) rfl ?_)))|refine Zac rfl (Zab (Zaa (id:=21) rfl ?_))|refine Zab (Zac rfl (Zaa (id:=21) rfl ?_))|refine Zac rfl (Zaa (id:=21) rfl ?_)
  refine Zaf rfl (fun _=>rfl) rfl rfl ?_
  refine Zaf rfl (fun _=>rfl) rfl rfl ?_
  refine Zaf rfl (fun _=>rfl) rfl rfl ?_
  refine Zaf rfl (fun _=>rfl) rfl rfl ?_
  refine Zah ?_
  repeat (first|refine Zae ?_|refine Zad ?_)
  refine And.intro (fun _=> ?_) (fun h=>by first|(cases h;done)|exact(nf hc h).elim)
  repeat (first|refine Zag ?_|refine Zae ?_|refine Zad ?_)
  first|refine Zab (Zaa (id:=23) rfl ?_)|refine Zab (Zab (Zaa (id:=23) rfl ?_))|refine Zaa (id:=23) rfl ?_|refine Zab (Zac rfl (Zab (Zaa (id:=23) rfl ?_)))|refine Zab (Zac rfl (Zab (Zab (Zaa (id:=23) rfl ?_))))|refine Zac rfl (Zab (Zab (Zaa (id:=23) rfl ?_)))|refine Zac rfl (Zab (Zaa (id:=23) rfl ?_))|refine Zab (Zac rfl (Zaa (id:=23) rfl ?_))|refine Zac rfl (Zaa (id:=23) rfl ?_)
  refine Zaf rfl (fun _=>rfl) rfl rfl ?_
  refine Zaf rfl (fun _=>rfl) rfl rfl ?_
  refine Zau rfl (ZaZ rfl rfl rfl rfl rfl hA rfl ci ?_)
  refine Zam rfl rfl ?_
  refine Zau rfl (Zbj rfl rfl hA hel rfl ?_)
  refine Zam rfl rfl ?_
  refine Zaf rfl (fun _=>rfl) rfl rfl ?_
  refine Zaf rfl (fun _=>rfl) rfl rfl ?_
  refine Zaf rfl (fun _=>rfl) rfl rfl ?_
  refine Zau rfl (ZaZ rfl rfl rfl rfl rfl hA rfl ci ?_)
  refine Zam rfl rfl ?_
  refine Zau rfl (Zbj rfl rfl hA hel rfl ?_)
  refine Zam rfl rfl ?_
  refine Zaf rfl (fun _=>rfl) rfl rfl ?_
  refine Zau rfl (Zcc rfl rfl rfl rfl rfl hrow rfl cj ?_)
  refine Zam rfl rfl ?_
  refine Zau rfl (ZcD (V:=QR x) rfl rfl hrow hcell rfl ?_)
  refine Zam rfl rfl ?_
  refine Zau rfl (ZfO (V:=QR c) rfl rfl hcd rfl rfl ?_)
  refine Zam rfl rfl ?_
  refine Zaf rfl (fun _=>rfl) rfl rfl ?_
  refine Zaf rfl (fun _=>rfl) rfl rfl ?_
  refine Zau rfl (ZaZ rfl rfl rfl rfl rfl hA rfl cm ?_)
  refine Zam rfl rfl ?_
  refine Zau rfl (Zbj rfl rfl hA helm rfl ?_)
  refine Zam rfl rfl ?_
  refine Zaf rfl (fun _=>rfl) rfl rfl ?_
  refine Zau rfl (Zcc rfl rfl rfl rfl rfl hrowm rfl cj ?_)
  refine Zam rfl rfl ?_
  refine Zau rfl (ZcD (V:=QR y) rfl rfl hrowm hcellm rfl ?_)
  refine Zam rfl rfl ?_
  refine Zau rfl ((hMul).mono ?_)
  rintro _ rfl
  refine Zam rfl rfl ?_
  refine Zau rfl ((hSub).mono ?_)
  rintro _ rfl
  refine Zam rfl rfl ?_
  refine Zau rfl (Zcc rfl rfl rfl rfl rfl hrow rfl cj ?_)
  refine Zam rfl rfl ?_
  refine Zau rfl (ZuV (z:=ZeO (x-c*y)) rfl rfl rfl hrow rfl hcell rfl rfl rfl ?_)
  refine Zcd rfl ?_
  refine Zah ?_
  repeat (first|refine Zae ?_|refine Zad ?_)
  repeat (first|refine Zag ?_|refine Zae ?_|refine Zad ?_)
  first|refine Zab (Zaa (id:=22) rfl ?_)|refine Zab (Zab (Zaa (id:=22) rfl ?_))|refine Zaa (id:=22) rfl ?_|refine Zab (Zac rfl (Zab (Zaa (id:=22) rfl ?_)))|refine Zab (Zac rfl (Zab (Zab (Zaa (id:=22) rfl ?_))))|refine Zac rfl (Zab (Zab (Zaa (id:=22) rfl ?_)))|refine Zac rfl (Zab (Zaa (id:=22) rfl ?_))|refine Zab (Zac rfl (Zaa (id:=22) rfl ?_))|refine Zac rfl (Zaa (id:=22) rfl ?_)
  refine Zaf rfl (fun _=>rfl) rfl rfl ?_
  refine Zaf rfl (fun _=>rfl) rfl rfl ?_
  refine Zaf rfl (fun _=>rfl) rfl rfl ?_
  refine Zah ?_
  repeat (first|refine Zae ?_|refine Zad ?_)
  refine⟨j+1,⟨by omega,hlt⟩,by show n-(j+1)<n-j;omega, ?_⟩
  refine Ent.eqs (hp0:=hpM n n (fC f g i (j+1)) [a,b,cQ c]) ?_ (ZaO ⟨rfl,rfl,rfl,rfl,rfl,rfl,congrArg (fun x=>some (SV.v (.i .i64) x)) (Zp8 (by omega)),rfl,rfl,trivial⟩)
  have e0:0+(j:Int).toNat=j:=by rw[Int.toNat_natCast,Nat.zero_add]
  rw[e0]
  refine(Zti hi hlt).trans (Zdu fun r s ha hb=> ?_)
  rw[←next r s ha hb,gij]
  rfl
end Go.Proofs.YtdnodlkdndfplaaGreatDoor
