/-
 Loops of lin.Reduce.
-/
import Derived.Test.YtdnodlkdndfplaaGreatDoorV2
set_option linter.constructorNameAsVariable false
set_option linter.unusedSimpArgs false
set_option linter.unusedVariables false
namespace Go.Proofs.YtdnodlkdndfplaaGreatDoor
open Go.Am Go.Tx Dv Go.Lib
set_option maxRecDepth 100000
abbrev nt (k:Nat):SV:= .v (.i .i64) (k:Int)
def cxR:Cx:=⟨118,0,174⟩
theorem ZA0 {q:Rat} (h:decide (q.num.sign=0)=true):q=0:=Rat.num_eq_zero.1 (Int.sign_eq_zero_iff_zero.1 (of_decide_eq_true h))
theorem ZBH {q:Rat} (h:decide (q.num.sign=0)=false):q≠0:=fun e=>by subst e;cases h
theorem cin {i n:Nat} (h:i<n):(0:Int)≤(i:Int)∧(i:Int)<((n:Nat):Int):=by omega
theorem ZjG {W k:Nat} {u:Nat→Rat} (h:k<W):(ZnB W u)[0+(k:Int).toNat]? =some (ZeU (u k)):=by rw[Int.toNat_natCast,Nat.zero_add];exact ZkQ h
theorem Zg1 {k:Nat} (h:k<1000000):IntKind.i64.wrap ((k:Int)+1)=((k+1:Nat):Int):=Zae (by omega) (by omega)
def vA (n cols m k q:Nat):TM:=[(0, .ref 0 0 n none),(1,nt cols),(6, .ref (n+1) 0 m none),(7,nt k),(8,nt m),(9,nt q)]
set_option maxHeartbeats 8000000 in
theorem ZAL (n W cols m k:Nat) (f:Nat→Nat→Rat) (ex:List SM) (hn:n≤1000) (hm:m≤n) (hk:k<W):
 LoopOK Tryz.prog Zam 0 cxR (Zcp Tryz.f118 8) (vA n cols m k m) (hpM n W f ex)
 (fun e tm hp=>e= .exit 2∧ ∃q,m≤q∧q≤n∧(∀i,m≤i→i<q→f i k=0)∧(q<n→f q k≠0)∧tm=vA n cols m k q∧hp=hpM n W f ex):=by
 refine LoopOK.through (k:=fun e tm hp=>e= .exit 2∧ ∃q,m≤q∧q≤n∧(∀i,m≤i→i<q→f i k=0)∧(q<n→f q k≠0)∧Ent 0 tm hp (vA n cols m k q) (hpM n W f ex)) ?_ (by
  rintro e tm hp ⟨rfl,q,h1,h2,h3,h4,h5⟩
  exact⟨_,_,h5,rfl,q,h1,h2,h3,h4,rfl,rfl⟩)
 refine Zap Zaa rfl (vA n cols m k) (fun _=>hpM n W f ex) (fun q=>m≤q∧q≤n∧ ∀i,m≤i→i<q→f i k=0) (fun q=>n-q) ?_ m ⟨Nat.le_refl _,hm,fun i h1 h2=>absurd h2 (by omega)⟩ Zbf
 rintro q ⟨h1,h2,h3⟩
 have hA:nth (hpM n W f ex) 0=some (.many (.l qct) (Zbc 1 (Zck n W f)) true):=rfl
 cases hc:decide ((q:Int)<(n:Int))with
 |false=>
  have hq:q=n:=by have:=of_decide_eq_false hc;omega
  refine Zat ?_
  iterate 5 refine Zah ?_
  refine ZaH hc ?_
  refine ZaH hc ?_
  refine ZaH hc ?_
  refine ZaH hc ?_
  refine ZaH hc ?_
  refine ZaH hc ?_
  refine ZaH hc ?_
  refine ZaH hc ?_
  refine ZaH hc ?_
  refine ZaS hc ?_
  refine Zas ?_
  refine brF hc ?_
  exact⟨rfl,q,h1,h2,h3,fun h=>absurd h (by omega),Zaq ⟨rfl,rfl,rfl,rfl,rfl,rfl,trivial⟩⟩
 |true=>
  have hlt:q<n:=by have:=of_decide_eq_true hc;omega
  have cq:=cin hlt
  have ck:=cin hk
  have hel:=Zeu (W:=W) (f:=f) (p:=1) hlt
  have hrow:=ZgV (W:=W) (f:=f) (ex:=ex) hlt
  have hcell:=ZjG (u:=f q) hk
  have hS:=Zm9 (f q k)
  cases hz:decide ((f q k).num.sign=0)with
  |true=>
   refine Zat ?_
   iterate 5 refine Zah ?_
   refine Zaf hc ?_
   refine Zaf hc ?_
   refine ZaL rfl rfl rfl hc (ZaC rfl rfl rfl rfl rfl hA rfl cq ?_)
   refine Zac rfl rfl ?_
   refine ZaL rfl rfl rfl hc (ZaO rfl rfl hA hel rfl ?_)
   refine Zac rfl rfl ?_
   refine Zaf hc ?_
   refine ZaL rfl rfl rfl hc (Zby rfl rfl rfl rfl rfl hrow rfl ck ?_)
   refine Zac rfl rfl ?_
   refine ZaL rfl rfl rfl hc (Zb5 (V:=QR (f q k)) rfl rfl hrow hcell rfl ?_)
   refine Zac rfl rfl ?_
   refine ZaL rfl rfl rfl hc ((hS).mono ?_)
   rintro _ rfl
   refine Zac rfl rfl ?_
   refine Zaf hc ?_
   refine Zbb hc ?_
   refine Zas ?_
   refine brT hz ?_
   refine⟨q+1,⟨by omega,hlt,fun i g1 g2=> ?_⟩,by show n-(q+1)<n-q;omega, ?_⟩
   ·by_cases e:i=q
    ·rw[e];exact ZA0 hz
    ·exact h3 i g1 (by omega)
   ·exact Zaq ⟨rfl,rfl,rfl,rfl,rfl,congrArg (fun x=>some (SV.v (.i .i64) x)) (Zg1 (by omega)),trivial⟩
  |false=>
   refine Zat ?_
   iterate 5 refine Zah ?_
   refine Zaf hc ?_
   refine Zaf hc ?_
   refine ZaL rfl rfl rfl hc (ZaC rfl rfl rfl rfl rfl hA rfl cq ?_)
   refine Zac rfl rfl ?_
   refine ZaL rfl rfl rfl hc (ZaO rfl rfl hA hel rfl ?_)
   refine Zac rfl rfl ?_
   refine Zaf hc ?_
   refine ZaL rfl rfl rfl hc (Zby rfl rfl rfl rfl rfl hrow rfl ck ?_)
   refine Zac rfl rfl ?_
   refine ZaL rfl rfl rfl hc (Zb5 (V:=QR (f q k)) rfl rfl hrow hcell rfl ?_)
   refine Zac rfl rfl ?_
   refine ZaL rfl rfl rfl hc ((hS).mono ?_)
   rintro _ rfl
   refine Zac rfl rfl ?_
   refine Zaf hc ?_
   refine Zbb hc ?_
   refine Zas ?_
   refine brF hz ?_
   exact⟨rfl,q,h1,h2,h3,fun _=>ZBH hz,Zaq ⟨rfl,rfl,rfl,rfl,rfl,rfl,trivial⟩⟩
abbrev cQ (d:Rat):SM:= .cell (Za8 (QR d)) true
def fB (f:Nat→Nat→Rat) (m:Nat) (d:Rat) (j:Nat):Nat→Nat→Rat:=fun a b=>if a=m∧b<j then f a b/d else f a b
def vB (n cols m k j:Nat):TM:=[(0, .ref 0 0 n none),(1,nt cols),(6, .ref (n+1) 0 m none),(7,nt k),(8,nt m),(10, .ptr (n+2) 0 0),(11,nt j)]
set_option maxHeartbeats 8000000 in
theorem ZAR (n W cols m k K:Nat) (f:Nat→Nat→Rat) (d:Rat) (pv:SM) (hn:n≤1000) (hW:W≤1000) (hm:m<n) (hk:k≤W) (hK:K≤100000000) (hd:d≠0) (sd:szQ d K) (sf: ∀j,j<W→szQ (f m j) K) (h0: ∀j,j<k→f m j=0):
 LoopOK Tryz.prog Zam 0 cxR (Zcp Tryz.f118 14) (vB n cols m k k) (hpM n W f [pv,cQ d])
 (fun e tm hp=>e= .exit 4∧tm=vB n cols m k W∧hp=hpM n W (fB f m d W) [pv,cQ d]):=by
 refine LoopOK.through (k:=fun e tm hp=>e= .exit 4∧Ent 0 tm hp (vB n cols m k W) (hpM n W (fB f m d W) [pv,cQ d])) ?_ (by
  rintro e tm hp ⟨rfl,h5⟩
  exact⟨_,_,h5,rfl,rfl,rfl⟩)
 refine Zap Zaa rfl (vB n cols m k) (fun j=>hpM n W (fB f m d j) [pv,cQ d]) (fun j=>k≤j∧j≤W) (fun j=>W-j) ?_ k ⟨Nat.le_refl _,hk⟩ (Ent.eqs (Zb3 fun a b _ _=>by
  unfold fB
  by_cases h:a=m∧b<k
  ·rw[if_pos h,h.1,h0 b h.2];grind
  ·rw[if_neg h]) Zbf)
 rintro j ⟨h1,h2⟩
 have hA:nth (hpM n W (fB f m d j) [pv,cQ d]) 0=some (.many (.l qct) (Zbc 1 (Zck n W (fB f m d j))) true):=rfl
 have cm:=cin hm
 have hel:=Zeu (W:=W) (f:=fB f m d j) (p:=1) hm
 cases hc:decide ((j:Int)<(W:Int))with
 |false=>
  have hj:j=W:=by have:=of_decide_eq_false hc;omega
  refine Zat ?_
  iterate 3 refine Zah ?_
  refine Zaj rfl (ZaC rfl rfl rfl rfl rfl hA rfl cm ?_)
  refine Zac rfl rfl ?_
  refine Zaj rfl (ZaO rfl rfl hA hel rfl ?_)
  refine Zac rfl rfl ?_
  iterate 2 refine Zah ?_
  refine Zas ?_
  refine brF hc ?_
  subst hj
  exact⟨rfl,Zaq ⟨rfl,rfl,rfl,rfl,rfl,rfl,rfl,trivial⟩⟩
 |true=>
  have hlt:j<W:=by have:=of_decide_eq_true hc;omega
  have cj:=cin hlt
  have hrow:=ZgV (W:=W) (f:=fB f m d j) (ex:=[pv,cQ d]) hm
  have hv:fB f m d j m j=f m j:=if_neg fun h=>absurd h.2 (Nat.lt_irrefl j)
  have hcell:=ZjG (u:=fB f m d j m) hlt
  rw[hv]at hcell
  have hcd:nth (hpM n W (fB f m d j) [pv,cQ d]) (n+2)=some (cQ d):=ZfO (e:=1)
  have hD:=Zz4 (f m j) d hK (sf j hlt) sd hd
  refine Zat ?_
  iterate 3 refine Zah ?_
  refine Zaj rfl (ZaC rfl rfl rfl rfl rfl hA rfl cm ?_)
  refine Zac rfl rfl ?_
  refine Zaj rfl (ZaO rfl rfl hA hel rfl ?_)
  refine Zac rfl rfl ?_
  iterate 2 refine Zah ?_
  refine Zas ?_
  refine brT hc ?_
  refine Zat ?_
  iterate 2 refine Zah ?_
  refine Zaj rfl (ZaC rfl rfl rfl rfl rfl hA rfl cm ?_)
  refine Zac rfl rfl ?_
  refine Zaj rfl (ZaO rfl rfl hA hel rfl ?_)
  refine Zac rfl rfl ?_
  iterate 3 refine Zah ?_
  refine Zaj rfl (ZaC rfl rfl rfl rfl rfl hA rfl cm ?_)
  refine Zac rfl rfl ?_
  refine Zaj rfl (ZaO rfl rfl hA hel rfl ?_)
  refine Zac rfl rfl ?_
  refine Zah ?_
  refine Zaj rfl (Zby rfl rfl rfl rfl rfl hrow rfl cj ?_)
  refine Zac rfl rfl ?_
  refine Zaj rfl (Zb5 (V:=QR (f m j)) rfl rfl hrow hcell rfl ?_)
  refine Zac rfl rfl ?_
  refine Zaj rfl (ZmK (V:=QR d) rfl rfl hcd rfl rfl ?_)
  refine Zac rfl rfl ?_
  refine Zaj rfl ((hD).mono ?_)
  rintro _ rfl
  refine Zac rfl rfl ?_
  refine Zaj rfl (Zby rfl rfl rfl rfl rfl hrow rfl cj ?_)
  refine Zac rfl rfl ?_
  refine Zaj rfl (Zo1 (z:=ZeU (f m j/d)) rfl rfl rfl hrow rfl hcell rfl rfl rfl ?_)
  refine ZbA rfl ?_
  refine Zas ?_
  refine⟨j+1,⟨by omega,hlt⟩,by show W-(j+1)<W-j;omega, ?_⟩
  refine Ent.eqs (hp0:=hpM n W (fB f m d (j+1)) [pv,cQ d]) ?_ (Zaq ⟨rfl,rfl,rfl,rfl,rfl,rfl,congrArg (fun x=>some (SV.v (.i .i64) x)) (Zg1 (by omega)),trivial⟩)
  have e0:0+(j:Int).toNat=j:=by rw[Int.toNat_natCast,Nat.zero_add]
  rw[e0]
  refine(Zmx hm hlt).trans (Zb3 fun a b _ _=> ?_)
  unfold ZyU fB
  by_cases h1:a=m
  ·by_cases h2:b=j
   ·rw[if_pos ⟨h1,h2⟩,if_pos ⟨h1,by omega⟩,h1,h2]
   ·rw[if_neg fun h=>h2 h.2]
    by_cases h3:b<j
    ·rw[if_pos ⟨h1,h3⟩,if_pos ⟨h1,by omega⟩]
    ·rw[if_neg fun h=>h3 h.2,if_neg fun h=>h3 (by omega)]
  ·rw[if_neg fun h=>h1 h.1,if_neg fun h=>h1 h.1,if_neg fun h=>h1 h.1]
def fC (f g:Nat→Nat→Rat) (i j:Nat):Nat→Nat→Rat:=fun a b=>if a<i∨(a=i∧b<j)then g a b else f a b
def vC (n cols m k i j:Nat):TM:=[(0, .ref 0 0 n none),(1,nt cols),(6, .ref (n+1) 0 m none),(7,nt k),(8,nt m),(12,nt i),(13, .ptr (n+3) 0 0),(14,nt j),(100,nt n),(101,nt i)]
set_option maxHeartbeats 16000000 in
theorem ZAx (n W cols m k i K:Nat) (f g:Nat→Nat→Rat) (d:SM) (pv:SM) (hn:n≤1000) (hW:W≤1000) (hm:m<n) (hi:i<n) (him:i≠m) (hk:k<W) (hK:K≤50000000) (sf: ∀a j,a<n→j<W→szQ (f a j) K)
 (h0: ∀j,j<k→f m j=0) (hgm: ∀j,j<W→g m j=f m j) (hg: ∀j,j<W→g i j=f i j-f i k*f m j):
 LoopOK Tryz.prog Zam 0 cxR (Zcp Tryz.f118 23) (vC n cols m k i k) (hpM n W (fC f g i 0) [pv,d,cQ (f i k)])
 (fun e tm hp=>e= .exit 8∧tm=vC n cols m k i W∧hp=hpM n W (fC f g (i+1) 0) [pv,d,cQ (f i k)]):=by
 obtain⟨c,ec⟩: ∃x,f i k=x:=⟨_,rfl⟩
 rw[ec]at hg⊢
 have sc:szQ c K:=by rw[←ec];exact sf i k hi hk
 have hfull:hpM n W (fC f g i W) [pv,d,cQ c]=hpM n W (fC f g (i+1) 0) [pv,d,cQ c]:=Zb3 fun a b _ hb=>by
  unfold fC
  by_cases h1:a<i
  ·rw[if_pos (.inl h1),if_pos (.inl (by omega))]
  ·by_cases h2:a=i
   ·rw[if_pos (.inr ⟨h2,hb⟩),if_pos (.inl (by omega))]
   ·rw[if_neg (by omega),if_neg (by omega)]
 have hstart:hpM n W (fC f g i 0) [pv,d,cQ c]=hpM n W (fC f g i k) [pv,d,cQ c]:=Zb3 fun a b _ hb=>by
  unfold fC
  by_cases h1:a<i
  ·rw[if_pos (.inl h1),if_pos (.inl h1)]
  ·rw[if_neg (by omega)]
   by_cases h2:a=i∧b<k
   ·rw[if_pos (.inr h2),h2.1,hg b hb,h0 b h2.2];grind
   ·rw[if_neg (by omega)]
 refine LoopOK.through (k:=fun e tm hp=>e= .exit 8∧Ent 0 tm hp (vC n cols m k i W) (hpM n W (fC f g i W) [pv,d,cQ c])) ?_ (by
  rintro e tm hp ⟨rfl,h5⟩
  exact⟨_,_,h5,rfl,rfl,hfull⟩)
 refine Zap Zaa rfl (vC n cols m k i) (fun j=>hpM n W (fC f g i j) [pv,d,cQ c]) (fun j=>k≤j∧j≤W) (fun j=>W-j) ?_ k ⟨Nat.le_refl _,by omega⟩ (Ent.eqs hstart Zbf)
 rintro j ⟨h1,h2⟩
 obtain⟨F,eF⟩: ∃x,fC f g i j=x:=⟨_,rfl⟩
 have hA:nth (hpM n W F [pv,d,cQ c]) 0=some (.many (.l qct) (Zbc 1 (Zck n W F)) true):=rfl
 have cm:=cin hm
 have ci:=cin hi
 have hel:=Zeu (W:=W) (f:=F) (p:=1) hi
 have helm:=Zeu (W:=W) (f:=F) (p:=1) hm
 have Fn: ∀V,V=hpM n W (fC f g i j) [pv,d,cQ c]→V=hpM n W F [pv,d,cQ c]:=fun V h=>by rw[←eF];exact h
 rw[eF]
 cases hc:decide ((j:Int)<(W:Int))with
 |false=>
  have hj:j=W:=by have:=of_decide_eq_false hc;omega
  refine Zat ?_
  iterate 3 refine Zah ?_
  refine Zaj rfl (ZaC rfl rfl rfl rfl rfl hA rfl ci ?_)
  refine Zac rfl rfl ?_
  refine Zaj rfl (ZaO rfl rfl hA hel rfl ?_)
  refine Zac rfl rfl ?_
  iterate 2 refine Zah ?_
  refine Zas ?_
  refine brF hc ?_
  subst hj
  rw[eF]
  exact⟨rfl,Zaq ⟨rfl,rfl,rfl,rfl,rfl,rfl,rfl,rfl,rfl,rfl,trivial⟩⟩
 |true=>
  have hlt:j<W:=by have:=of_decide_eq_true hc;omega
  have cj:=cin hlt
  have hrow:=ZgV (W:=W) (f:=F) (ex:=[pv,d,cQ c]) hi
  have hrowm:=ZgV (W:=W) (f:=F) (ex:=[pv,d,cQ c]) hm
  have hv:F i j=f i j:=by rw[←eF];exact if_neg (by omega)
  have hvm:F m j=f m j:=by
   rw[←eF]
   show(if _ then _ else _)=_
   split
   ·exact hgm j hlt
   ·rfl
  have hcell:=ZjG (u:=F i) hlt
  have hcellm:=ZjG (u:=F m) hlt
  rw[hv]at hcell
  rw[hvm]at hcellm
  have hcd:nth (hpM n W F [pv,d,cQ c]) (n+3)=some (cQ c):=ZfO (e:=2)
  have hS:=Zm9 (f m j)
  have gij:=hg j hlt
  obtain⟨y,ey⟩: ∃x,f m j=x:=⟨_,rfl⟩
  obtain⟨x,ex⟩: ∃x,f i j=x:=⟨_,rfl⟩
  have sx:szQ x K:=by rw[←ex];exact sf i j hi hlt
  have sy:szQ y K:=by rw[←ey];exact sf m j hm hlt
  rw[ey]at hcellm hS gij
  rw[ex]at hcell gij
  have hMul:=ZzA c y (k:=K) (by omega) sc sy
  have hSub:=ZyV x (c*y) (k:=K+K) (by omega) (Zxq (by omega) sx) (Zz9 sc sy)
  have next: ∀a b,a<n→b<W→(if a=i∧b=j then g i j else F a b)=fC f g i (j+1) a b:=fun a b _ _=>by
   rw[←eF]
   unfold fC
   by_cases h1:a=i∧b=j
   ·rw[if_pos h1,if_pos (.inr (by omega)),h1.1,h1.2]
   ·rw[if_neg h1]
    by_cases h2:a<i∨(a=i∧b<j)
    ·rw[if_pos h2,if_pos (by omega)]
    ·rw[if_neg h2,if_neg (by omega)]
  refine Zat ?_
  iterate 3 refine Zah ?_
  refine Zaj rfl (ZaC rfl rfl rfl rfl rfl hA rfl ci ?_)
  refine Zac rfl rfl ?_
  refine Zaj rfl (ZaO rfl rfl hA hel rfl ?_)
  refine Zac rfl rfl ?_
  iterate 2 refine Zah ?_
  refine Zas ?_
  refine brT hc ?_
  cases hz:decide (y.num.sign=0)with
  |true=>
   have hz':(!decide (y.num.sign=0))=false:=by rw[hz];rfl
   have y0:=ZA0 hz
   refine Zat ?_
   iterate 2 refine Zah ?_
   refine Zaj rfl (ZaC rfl rfl rfl rfl rfl hA rfl cm ?_)
   refine Zac rfl rfl ?_
   refine Zaj rfl (ZaO rfl rfl hA helm rfl ?_)
   refine Zac rfl rfl ?_
   refine Zah ?_
   refine Zaj rfl (Zby rfl rfl rfl rfl rfl hrowm rfl cj ?_)
   refine Zac rfl rfl ?_
   refine Zaj rfl (Zb5 (V:=QR y) rfl rfl hrowm hcellm rfl ?_)
   refine Zac rfl rfl ?_
   refine Zaj rfl ((hS).mono ?_)
   rintro _ rfl
   refine Zac rfl rfl ?_
   refine Zah ?_
   refine Zas ?_
   refine And.intro (fun h=>by first|(cases h;done)|exact(nf h hz').elim) (fun _=> ?_)
   refine⟨j+1,⟨by omega,hlt⟩,by show W-(j+1)<W-j;omega, ?_⟩
   refine Ent.eqs (hp0:=hpM n W (fC f g i (j+1)) [pv,d,cQ c]) ?_ (Zaq ⟨rfl,rfl,rfl,rfl,rfl,rfl,rfl,congrArg (fun x=>some (SV.v (.i .i64) x)) (Zg1 (by omega)),rfl,rfl,trivial⟩)
   refine Zb3 fun a b ha hb=> ?_
   rw[←next a b ha hb]
   split
   ·rename_i h;rw[h.1,h.2,gij,y0,hv,ex];grind
   ·rfl
  |false=>
   have hz':(!decide (y.num.sign=0))=true:=by rw[hz];rfl
   refine Zat ?_
   iterate 2 refine Zah ?_
   refine Zaj rfl (ZaC rfl rfl rfl rfl rfl hA rfl cm ?_)
   refine Zac rfl rfl ?_
   refine Zaj rfl (ZaO rfl rfl hA helm rfl ?_)
   refine Zac rfl rfl ?_
   refine Zah ?_
   refine Zaj rfl (Zby rfl rfl rfl rfl rfl hrowm rfl cj ?_)
   refine Zac rfl rfl ?_
   refine Zaj rfl (Zb5 (V:=QR y) rfl rfl hrowm hcellm rfl ?_)
   refine Zac rfl rfl ?_
   refine Zaj rfl ((hS).mono ?_)
   rintro _ rfl
   refine Zac rfl rfl ?_
   refine Zah ?_
   refine Zas ?_
   refine And.intro (fun _=> ?_) (fun h=>by first|(cases h;done)|exact(nf hz' h).elim)
   refine Zat ?_
   iterate 2 refine Zah ?_
   refine Zaj rfl (ZaC rfl rfl rfl rfl rfl hA rfl ci ?_)
   refine Zac rfl rfl ?_
   refine Zaj rfl (ZaO rfl rfl hA hel rfl ?_)
   refine Zac rfl rfl ?_
   iterate 3 refine Zah ?_
   refine Zaj rfl (ZaC rfl rfl rfl rfl rfl hA rfl ci ?_)
   refine Zac rfl rfl ?_
   refine Zaj rfl (ZaO rfl rfl hA hel rfl ?_)
   refine Zac rfl rfl ?_
   refine Zah ?_
   refine Zaj rfl (Zby rfl rfl rfl rfl rfl hrow rfl cj ?_)
   refine Zac rfl rfl ?_
   refine Zaj rfl (Zb5 (V:=QR x) rfl rfl hrow hcell rfl ?_)
   refine Zac rfl rfl ?_
   refine Zaj rfl (ZmK (V:=QR c) rfl rfl hcd rfl rfl ?_)
   refine Zac rfl rfl ?_
   iterate 2 refine Zah ?_
   refine Zaj rfl (ZaC rfl rfl rfl rfl rfl hA rfl cm ?_)
   refine Zac rfl rfl ?_
   refine Zaj rfl (ZaO rfl rfl hA helm rfl ?_)
   refine Zac rfl rfl ?_
   refine Zah ?_
   refine Zaj rfl (Zby rfl rfl rfl rfl rfl hrowm rfl cj ?_)
   refine Zac rfl rfl ?_
   refine Zaj rfl (Zb5 (V:=QR y) rfl rfl hrowm hcellm rfl ?_)
   refine Zac rfl rfl ?_
   refine Zaj rfl ((hMul).mono ?_)
   rintro _ rfl
   refine Zac rfl rfl ?_
   refine Zaj rfl ((hSub).mono ?_)
   rintro _ rfl
   refine Zac rfl rfl ?_
   refine Zaj rfl (Zby rfl rfl rfl rfl rfl hrow rfl cj ?_)
   refine Zac rfl rfl ?_
   refine Zaj rfl (Zo1 (z:=ZeU (x-c*y)) rfl rfl rfl hrow rfl hcell rfl rfl rfl ?_)
   refine ZbA rfl ?_
   refine Zas ?_
   refine⟨j+1,⟨by omega,hlt⟩,by show W-(j+1)<W-j;omega, ?_⟩
   refine Ent.eqs (hp0:=hpM n W (fC f g i (j+1)) [pv,d,cQ c]) ?_ (Zaq ⟨rfl,rfl,rfl,rfl,rfl,rfl,rfl,congrArg (fun x=>some (SV.v (.i .i64) x)) (Zg1 (by omega)),rfl,rfl,trivial⟩)
   have e0:0+(j:Int).toNat=j:=by rw[Int.toNat_natCast,Nat.zero_add]
   rw[e0]
   refine(Zmx hi hlt).trans (Zb3 fun a b ha hb=> ?_)
   rw[←next a b ha hb,gij]
   rfl
end Go.Proofs.YtdnodlkdndfplaaGreatDoor
