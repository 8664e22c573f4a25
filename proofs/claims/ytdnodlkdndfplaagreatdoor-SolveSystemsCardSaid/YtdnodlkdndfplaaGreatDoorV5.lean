/-
 lin.Reduce: the reduced echelon form.
-/
import Derived.Test.YtdnodlkdndfplaaGreatDoorTxH
set_option linter.constructorNameAsVariable false
set_option linter.unusedSimpArgs false
set_option linter.unusedVariables false
namespace Go.Proofs.YtdnodlkdndfplaaGreatDoor
open Go.Am Go.Tx Dv Go.Lib La
set_option maxRecDepth 100000
theorem Zwn {n W k c:Nat} {M N:Mx} {p:List Nat} (h:Elm n W M k p N) (hp:n≤p.length) (hk:k≤c):Elm n W M c p N:=
 ⟨h.req,⟨h.ech.mn,h.ech.inc,fun t ht=>Nat.lt_of_lt_of_le (h.ech.lt t ht) hk,h.ech.one,h.ech.col,fun i j h1 h2 _=>absurd h2 (by omega)⟩,h.kinds⟩
def pvR (p:List Nat):SM:= .row (.i .i64) (p.map Int.ofNat) true
def vR (n cols:Nat) (p:List Nat) (k:Nat):TM:=[(0, .ref 0 0 n none),(1,nt cols),(6, .ref (n+1) 0 p.length none),(7,nt k)]
def vS (n cols m k:Nat):TM:=[(0, .ref 0 0 n none),(1,nt cols),(6, .ref (n+1) 0 m none),(7,nt k),(8,nt m)]
def elN (N:Mx) (m q k:Nat):Mx:=fun i j=>if i=m then N q j/N q k else swR N m q i j-swR N m q i k*(N q j/N q k)
set_option maxHeartbeats 32000000 in
theorem ZvP (n W cols K:Nat) (f0:Mx) (hn:n≤1000) (hW:W≤1000) (hnW:n=0∨1≤W) (hcols:cols≤W) (hK:K≤50000000) (hs: ∀k p N,k≤W→Elm n W f0 k p N→ ∀i j,i<n→j<W→szQ (N i j) K):
 PureOK Tryz.prog Zan 118 [.v (.l (.l qct)) (Zbo n W f0),nt cols] (fun V=> ∃N p,Elm n W f0 cols p N∧V= .tup [.v (.l (.l qct)) (Zbo n W N), .v (.l (.i .i64)) (p.map Int.ofNat)]):=by
 refine ZeX (fn:=Tryz.f118) (code:=Zb1 Tryz.f118) Zaa (by kernel_rfl) rfl Tryz.func118 (by kernel_rfl) (Nat.le_of_ble_eq_true (by kernel_rfl)) ?_
 show CodeOK Tryz.prog Zan 0 cxR (Zb1 Tryz.f118) [(0, .v (.l (.l qct)) (Zbo n W f0)),(1,nt cols)] [] (ZrM tys Tryz.f118.results.toList fun V hp=>ZdB hp 40 V fun V=> ∃N p,Elm n W f0 cols p N∧V= .tup [.v (.l (.l qct)) (Zbo n W N), .v (.l (.i .i64)) (p.map Int.ofNat)])
 have hrow: ∀x∈Zbo n W f0,x.length=W:=fun x hx=>by
  obtain⟨i,_,rfl⟩:=List.mem_map.1 hx
  exact Zbl
 have hCopy:=ZzO (Zbo n W f0) [] (by rw[ZaK];exact hn) (fun x hx=>by rw[hrow x hx];exact hW) (fun x hx e=>by
  have h1:=hrow x hx
  rw[e]at h1
  rcases hnW with h|h
  ·subst h;exact absurd hx List.not_mem_nil
  ·rw[←h1]at h;exact absurd h (by decide))
 have hel0:(Zbo n W f0).length=n:=ZaK
 refine Zak (Zau Zaa ?_)
 refine Zas ?_
 iterate 2 refine Zad ?_
 refine Zaq ?_
 refine Zak (Zau Zaa ?_)
 refine Zas ?_
 refine Zad ?_
 refine Zag rfl ((hCopy.mono ?_))
 rintro _ _ ⟨rfl,rfl⟩
 refine Zab rfl rfl ?_
 refine Zad ?_
 refine Zaq ?_
 refine Zak (Zau Zaa ?_)
 refine Zas ?_
 refine Zad ?_
 refine Zaq ?_
 refine CodeOK.ent (tm':=[(6, .nils),(0, .ref 0 0 n none),(1,nt cols)]) (hp':=hpM n W f0 []) ?_ (Ent.eqs (by
  rw[hpM,List.nil_append,List.nil_append,List.append_nil];rfl) (Zap ⟨rfl,congrArg (fun x=>some (SV.ref 0 0 x none)) hel0,rfl,trivial⟩))
 refine CodeOK.ent (tm':=[(6, .ref (n+1) 0 0 none),(0, .ref 0 0 n none),(1,nt cols)]) (hp':=hpM n W f0 [pvR []]) ?_ (by
  have hx:hpM n W f0 []++ [SM.row (.i .i64) ([]:List Int) true]=hpM n W f0 [pvR []]:=ZeZ
  rw[←hx]
  refine ZqC (k:=6) (Nat.zero_le _) rfl (fun i V hi h=> ?_) (congrArg (fun x=>some (SV.ref x 0 0 none)) (ZbL (n:=n) (W:=W) (f:=f0) (ex:=[])).symm)
  have hb:Nat.beq i 6=false:=by
   cases hb:Nat.beq i 6 with
   |true=>exact absurd (Nat.eq_of_beq_eq_true hb) hi
   |false=>rfl
  simp only[Zbj,hb]at h⊢
  exact h)
 refine Zak (Zak (Zau Zaa ?_))
 refine Zas ?_
 refine Zad ?_
 refine Zaq ?_
 refine Zbi rfl (ZbV ?_)
 refine Zwq rfl (fun(t:Nat×List Nat×Mx)=>vR n cols t.2.1 t.1) (fun t=>hpM n W t.2.2 [pvR t.2.1]) (fun t=>t.1≤cols∧Elm n W f0 t.1 t.2.1 t.2.2) (fun t=>cols-t.1) ?_ (0,[],f0) ⟨Nat.zero_le _,Elm.start fun _ _ _ _=>rfl⟩ (Zap ⟨rfl,rfl,rfl,rfl,trivial⟩)
 rintro⟨k,p,N⟩ ⟨hk,hE⟩
 simp only at hk hE
 have hpn:=hE.ech.mn
 have hkW:k≤W:=Nat.le_trans hk hcols
 have sN:=hs k p N hkW hE
 have fin: ∀c,k≤c→Elm n W f0 c p N→c=cols→ ∀tm:TM,Zbj 0 tm=some (.ref 0 0 n none)→Zbj 6 tm=some (.ref (n+1) 0 p.length none)→CodeOK Tryz.prog Zan 0 cxR (Zsf 4 (Zb1 Tryz.f118)) tm (hpM n W N [pvR p]) (ZrM tys Tryz.f118.results.toList fun V hp=>ZdB hp 40 V fun V=> ∃N p,Elm n W f0 cols p N∧V= .tup [.v (.l (.l qct)) (Zbo n W N), .v (.l (.i .i64)) (p.map Int.ofNat)]):=by
  rintro c _ hEc rfl tm g0 g6
  refine CodeOK.ent (tm':=[(0, .ref 0 0 n none),(6, .ref (n+1) 0 p.length none)]) (hp':=hpM n W N [pvR p]) ?_ (Zap ⟨g0,g6,trivial⟩)
  refine Zak (Zau Zaa ?_)
  refine Zas ?_
  iterate 4 refine Zad ?_
  refine Zaq ?_
  refine Zau Zaa ?_
  have hx1:ZdB (hpM n W N [pvR p]) (36+3) (.ref 0 0 n none) (fun V=>Zfc (ZdB (hpM n W N [pvR p]) 39) [.ref (n+1) 0 p.length none] fun r=> ∃N' p',Elm n W f0 c p' N'∧SV.tup (V::r)= .tup [.v (.l (.l qct)) (Zbo n W N'), .v (.l (.i .i64)) (p'.map Int.ofNat)]):=by
   refine Ztj rfl ZaK.symm ?_
   have hx2:ZdB (hpM n W N [pvR p]) (37+2) (.ref (n+1) 0 p.length none) (fun V=> ∃N' p',Elm n W f0 c p' N'∧SV.tup [.v (.l (.l qct)) (Zbo n W N),V]= .tup [.v (.l (.l qct)) (Zbo n W N'), .v (.l (.i .i64)) (p'.map Int.ofNat)]):=by
    refine ZkI (ct:= .i .i64) (l:=p.map Int.ofNat) (b:=true) (show nth (hpM n W N [pvR p]) (n+1)=some (.row (.i .i64) (p.map Int.ofNat) true)from Zf8 (e:=0)) (by rw[List.length_map];omega) ?_
    refine⟨N,p,hEc, ?_⟩
    rw[show sub (p.map Int.ofNat) 0 p.length=p.map Int.ofNat by rw[sub,List.drop_zero,List.take_of_length_le (by rw[List.length_map];omega)]]
   exact hx2
  exact hx1
 cases h1:decide ((k:Int)<(cols:Int))with
 |false=>
  have hkc:k=cols:=by have:=of_decide_eq_false h1;omega
  refine Zak (Zau Zaa ?_)
  refine Zas ?_
  iterate 4 refine Zad ?_
  refine ZaL h1 ?_
  refine ZaL h1 ?_
  refine ZaL h1 ?_
  refine ZaL h1 ?_
  refine ZaL h1 ?_
  refine ZaW h1 ?_
  refine Zaq ?_
  refine brF rfl ?_
  exact fin k (Nat.le_refl k) hE hkc _ rfl rfl
 |true=>
  have hkc:k<cols:=by have:=of_decide_eq_true h1;omega
  cases h2:decide ((p.length:Int)<(n:Int))with
  |false=>
   have hpl:n≤p.length:=by have:=of_decide_eq_false h2;omega
   refine Zak (Zau Zaa ?_)
   refine Zas ?_
   iterate 4 refine Zad ?_
   refine Zae h1 ?_
   refine Zae h1 ?_
   refine Zae h1 ?_
   refine Zae h1 ?_
   refine Zae h1 ?_
   refine ZaY h1 ?_
   refine Zaq ?_
   refine brF h2 ?_
   exact fin cols hk (Zwn hE hpl hk) rfl _ rfl rfl
  |true=>
   have hpl:p.length<n:=by have:=of_decide_eq_true h2;omega
   have hkW':k<W:=by omega
   refine Zak (Zau Zaa ?_)
   refine Zas ?_
   iterate 4 refine Zad ?_
   refine Zae h1 ?_
   refine Zae h1 ?_
   refine Zae h1 ?_
   refine Zae h1 ?_
   refine Zae h1 ?_
   refine ZaY h1 ?_
   refine Zaq ?_
   refine brT h2 ?_
   refine Zak (Zbi rfl ?_)
   refine Zak (Zau Zaa ?_)
   refine Zas ?_
   iterate 3 refine Zad ?_
   refine Zaq ?_
   refine Zak (Zau Zaa ?_)
   refine Zas ?_
   iterate 2 refine Zad ?_
   refine Zaq ?_
   refine Zak (Zbi rfl (ZbV ?_))
   refine((ZBm n W cols p.length k N [pvR p] hn (by omega) hkW').ent ?_).mono ?_
   ·exact Zap ⟨rfl,rfl,rfl,rfl,rfl,rfl,trivial⟩
   rintro _ _ _ ⟨rfl,q,q1,q2,q3,q4,rfl,rfl⟩
   cases h3:decide ((q:Int)=(n:Int))with
   |true=>
    have hqn:q=n:=by have:=of_decide_eq_true h3;omega
    refine Zak (Zau Zaa ?_)
    refine Zas ?_
    iterate 4 refine Zad ?_
    refine Zaq ?_
    refine brT h3 ?_
    refine Zau Zaa ?_
    refine Zas ?_
    iterate 3 refine Zad ?_
    refine Zaq ?_
    refine⟨(k+1,p,N),⟨hkc,hE.skip fun i g1 g2=>q3 i g1 (by omega)⟩,by show cols-(k+1)<cols-k;omega, ?_⟩
    exact Zap ⟨rfl,rfl,rfl,congrArg (fun x=>some (SV.v (.i .i64) x)) (Zd7 (by omega)),trivial⟩
   |false=>
    have hqn:q<n:=by have:=of_decide_eq_false h3;omega
    have hd:=q4 hqn
    have hE':Elm n W f0 (k+1) (p++ [k]) (elN N p.length q k):=hE.step q1 hqn hkW' hd fun i j _ _=>rfl
    have sE:=hs (k+1) (p++ [k]) _ hkW' hE'
    refine Zak (Zau Zaa ?_)
    refine Zas ?_
    iterate 4 refine Zad ?_
    refine Zaq ?_
    refine brF h3 ?_
    have cq:=cin hqn
    have cm:=cin hpl
    have ck:=cin hkW'
    have em:0+(p.length:Int).toNat=p.length:=by rw[Int.toNat_natCast,Nat.zero_add]
    have eq:0+(q:Int).toNat=q:=by rw[Int.toNat_natCast,Nat.zero_add]
    have hA:nth (hpM n W N [pvR p]) 0=some (.many (.l qct) (ZaM 1 (Zbo n W N)) true):=rfl
    have helq:=ZeL (W:=W) (f:=N) (p:=1) hqn
    have helm:=ZeL (W:=W) (f:=N) (p:=1) hpl
    have hlm: ∀V:SV,0+(p.length:Int).toNat<(ZaM 1 (Zbo n W N)).length:=fun _=>by rw[ZaF,ZaK];omega
    have hlq: ∀V:SV,0+(q:Int).toNat<((ZaM 1 (Zbo n W N)).set (0+(p.length:Int).toNat) V).length:=fun _=>by rw[List.length_set,ZaF,ZaK];omega
    refine Zak (Zau Zaa ?_)
    refine ZCw ?_
    refine Zbw rfl rfl (opv (fun _=>rfl) rfl rfl ?_)
    refine Zbw rfl rfl (opv (fun _=>rfl) rfl rfl ?_)
    refine Zb3 rfl rfl rfl rfl rfl ?_
    refine Zb3 rfl rfl rfl rfl rfl ?_
    refine Zbw rfl rfl (opv (fun _=>rfl) rfl rfl ?_)
    refine Zbw rfl rfl (opv (fun _=>rfl) rfl rfl ?_)
    refine Zbw rfl rfl (ZaD rfl rfl rfl rfl rfl hA rfl cq ?_)
    refine Zbx rfl rfl ?_
    refine Zbw rfl rfl (ZaS rfl rfl hA helq rfl ?_)
    refine Zbx rfl rfl ?_
    refine Zbw rfl rfl (opv (fun _=>rfl) rfl rfl ?_)
    refine Zbw rfl rfl (opv (fun _=>rfl) rfl rfl ?_)
    refine Zbw rfl rfl (ZaD rfl rfl rfl rfl rfl hA rfl cm ?_)
    refine Zbx rfl rfl ?_
    refine Zbw rfl rfl (ZaS rfl rfl hA helm rfl ?_)
    refine Zbx rfl rfl ?_
    refine Zbw rfl rfl (ZaD rfl rfl rfl rfl rfl hA rfl cm ?_)
    refine Zbx rfl rfl ?_
    refine Zju rfl rfl (ZeD rfl rfl rfl hA rfl rfl rfl (hlm .nils) ?_)
    refine Zcb rfl ?_
    refine Zbw rfl rfl (ZaD rfl rfl rfl rfl rfl rfl rfl cq ?_)
    refine Zbx rfl rfl ?_
    refine Zju rfl rfl (ZeD rfl rfl rfl rfl rfl rfl rfl (hlq _) ?_)
    refine Zcb rfl ?_
    refine ZAI ?_
    refine CodeOK.ent (tm':=vS n cols p.length k) (hp':=hpM n W (swR N p.length q) [pvR p]) ?_ (by
     have hxm:p.length<(Zbo n W N).length:=by rw[ZaK];exact hpl
     have hxq:q<(Zbo n W N).length:=by rw[ZaK];exact hqn
     rw[em,eq]
     refine Zww (xs:=Zbo n W N) (ys:=Zbo n W (swR N p.length q)) (a:=p.length) (b:=q) (la:=W) (lb:=W) hxm hxq (by rw[ZdU hxm,Zbl]) (by rw[ZdU hxq,Zbl]) (by rw[ZaK,ZaK]) (fun j h1 h2=> ?_) (Nat.zero_le _) (fun m hm=>by rw[List.mem_singleton.1 hm];rfl) ?_
     ·rw[ZdU h1,ZdU h2]
      refine ZgX fun b _=> ?_
      simp only[swR,swI]
      split
      ·rfl
      ·split<;>rfl
     ·have hlen:(Zbo n W N).length=n:=ZaK
      refine⟨rfl,fun id h=> .inl (by simpa[Zen]using h),rfl,fun id h=>absurd h List.not_mem_nil,rfl,fun id h=> .inr ?_,rfl,fun id h=>absurd h List.not_mem_nil,rfl,fun id h=>absurd h List.not_mem_nil,trivial⟩
      have hid:id=n+1:=by simpa[Zen]using h
      subst hid
      rw[hlen]
      exact⟨Nat.lt_succ_self n,by show n+1<n+1+1;omega⟩)
    obtain⟨N1,eN1⟩: ∃x,swR N p.length q=x:=⟨_,rfl⟩
    have n1m: ∀j,N1 p.length j=N q j:=fun j=>by rw[←eN1];exact if_pos rfl
    have n1o: ∀i,i<n→ ∃i',i'<n∧ ∀j,N1 i j=N i' j:=fun i hi=>by
     rw[←eN1]
     simp only[swR]
     by_cases h1:i=p.length
     ·exact⟨q,hqn,fun j=>by rw[if_pos h1]⟩
     ·by_cases h2:i=q
      ·exact⟨p.length,hpl,fun j=>by rw[if_neg h1,if_pos h2]⟩
      ·exact⟨i,hi,fun j=>by rw[if_neg h1,if_neg h2]⟩
    have nE: ∀i j,elN N p.length q k i j=if i=p.length then N q j/N q k else N1 i j-N1 i k*(N q j/N q k):=fun i j=>by rw[←eN1];rfl
    rw[eN1]
    obtain⟨d,ed⟩: ∃x,N q k=x:=⟨_,rfl⟩
    rw[ed]at hd nE
    have hrow1:=ZgT (W:=W) (f:=N1) (ex:=[pvR p]) hpl
    have hcell1:=Zkp (u:=N1 p.length) hkW'
    rw[n1m k,ed]at hcell1
    have hA1:nth (hpM n W N1 [pvR p]) 0=some (.many (.l qct) (ZaM 1 (Zbo n W N1)) true):=rfl
    have helm1:=ZeL (W:=W) (f:=N1) (p:=1) hpl
    have hpush: ∀c:SM,nth (hpM n W N1 ([pvR p]++ [c])) (hpM n W N1 [pvR p]).length=some c:=fun c=>by rw[ZbL];exact Zf8 (e:=1)
    have hset: ∀x y:SM,(hpM n W N1 ([pvR p]++ [x])).set (hpM n W N1 [pvR p]).length y=hpM n W N1 [pvR p,y]:=fun x y=>by rw[ZbL];exact Zlr (e:=1)
    have hl2:(hpM n W N1 [pvR p]).length=n+2:=ZbL
    have s1: ∀i j,i<n→j<W→szQ (N1 i j) K:=fun i j hi hj=>by
     obtain⟨i',h1,h2⟩:=n1o i hi
     rw[h2];exact sN i' j h1 hj
    have z1: ∀j,j<k→N1 p.length j=0:=fun j hj=>by rw[n1m];exact hE.ech.low q j q1 hqn hj
    have sd:szQ d K:=by rw[←ed];exact sN q k hqn hkW'
    refine Zak (Zau Zaa ?_)
    refine Zas ?_
    iterate 2 refine Zad ?_
    refine Zag rfl (ZaD rfl rfl rfl rfl rfl hA1 rfl cm ?_)
    refine Zab rfl rfl ?_
    refine Zag rfl (ZaS rfl rfl hA1 helm1 rfl ?_)
    refine Zab rfl rfl ?_
    refine Zad ?_
    refine Zag rfl (ZbI rfl rfl rfl rfl rfl hrow1 rfl ck ?_)
    refine Zab rfl rfl ?_
    refine Zag rfl (Zca (V:=QR d) rfl rfl hrow1 hcell1 rfl ?_)
    refine Zab rfl rfl ?_
    refine Zn1 ?_
    refine Zss ZeZ ?_
    refine Zag rfl (Zmf rfl rfl rfl (hpush _) rfl rfl rfl rfl ?_)
    refine Zcb rfl ?_
    refine Zaq ?_
    refine Zak (Zak (Zau Zaa ?_))
    refine Zas ?_
    iterate 2 refine Zad ?_
    refine Zaq ?_
    refine Zbi rfl (ZbV ?_)
    refine((ZBL n W cols p.length k K N1 d (pvR p) hn hW hpl hkW (by omega) hd sd (fun j hj=>s1 _ j hpl hj) z1).ent ?_).mono ?_
    ·exact Ent.eqs (hset _ _) (Zap ⟨rfl,rfl,rfl,rfl,rfl,congrArg (fun x=>some (SV.ptr x 0 0)) hl2,rfl,trivial⟩)
    rintro _ _ _ ⟨rfl,rfl,rfl⟩
    obtain⟨f,ef⟩: ∃x,fB N1 p.length d W=x:=⟨_,rfl⟩
    have fm: ∀j,j<W→f p.length j=N q j/d:=fun j hj=>by rw[←ef];unfold fB;rw[if_pos ⟨rfl,hj⟩,n1m]
    have fo: ∀i j,i≠p.length→f i j=N1 i j:=fun i j hi=>by rw[←ef];exact if_neg fun h=>hi h.1
    rw[ef]
    have sf: ∀a j,a<n→j<W→szQ (f a j) K:=fun a j ha hj=>by
     by_cases h:a=p.length
     ·have:=sE p.length j hpl hj
      rw[nE,if_pos rfl]at this
      rw[h,fm j hj];exact this
     ·rw[fo a j h];exact s1 a j ha hj
    refine Zak (Zak (Zau Zaa ?_))
    refine Zas ?_
    iterate 3 refine Zad ?_
    refine Zaq ?_
    refine Zbi rfl (ZbV ?_)
    refine((ZBB n W cols p.length k K f (elN N p.length q k) (cQ d) (pvR p) hn hW hpl hkW' hK sf rfl rfl (fun j hj=>by
     rw[fm j (by omega),←n1m,z1 j hj];grind) (fun j hj=>by rw[nE,if_pos rfl,fm j hj]) (fun i j hi him hj=>by rw[nE,if_neg him,fo i j him,fo i k him,fm j hj])).ent ?_).mono ?_
    ·exact Zap ⟨rfl,rfl,rfl,rfl,rfl,rfl,rfl,trivial⟩
    rintro _ _ _ ⟨rfl,rfl,rfl⟩
    obtain⟨G,eG⟩: ∃x,elN N p.length q k=x:=⟨_,rfl⟩
    rw[eG]at hE'⊢
    have hl3:(hpM n W G [pvR p,cQ d]).length=n+3:=ZbL
    have hpv: ∀x:SM,nth (hpM n W G ([pvR p,cQ d]++ [x])) (n+1)=some (.row (.i .i64) (p.map Int.ofNat) true):=fun x=>Zf8 (e:=0)
    have hnew: ∀x:SM,nth (hpM n W G ([pvR p,cQ d]++ [x])) (hpM n W G [pvR p,cQ d]).length=some x:=fun x=>by rw[hl3];exact Zf8 (e:=2)
    refine Zau Zaa ?_
    refine Zas ?_
    iterate 2 refine Zad ?_
    refine Zn1 ?_
    refine Zss ZeZ ?_
    refine Zag rfl (Ztl (l:=p.map Int.ofNat) (x:=(k:Int)) rfl rfl rfl rfl rfl rfl rfl rfl rfl (hpv _) (hnew _) (List.length_map _).symm (show(p.length+1)*8≤140737488355328 by omega) ?_)
    refine Zab rfl rfl ?_
    refine Zad ?_
    refine Zaq ?_
    refine Zau Zaa ?_
    refine Zas ?_
    iterate 3 refine Zad ?_
    refine Zaq ?_
    refine⟨(k+1,p++ [k],G),⟨hkc,hE'⟩,by show cols-(k+1)<cols-k;omega, ?_⟩
    have hfin: ∀x:SM,(hpM n W G ([pvR p,cQ d]++ [x])).set (n+1) .dead++ [SM.row (.i .i64) (p.map Int.ofNat++ [(k:Int)]) true]=hpM n W G [.dead,cQ d,x,pvR (p++ [k])]:=fun x=>by
     have e1:(hpM n W G ([pvR p,cQ d]++ [x])).set (n+1) .dead=hpM n W G [.dead,cQ d,x]:=Zlr (e:=0)
     have e2:SM.row (.i .i64) (p.map Int.ofNat++ [(k:Int)]) true=pvR (p++ [k]):=by rw[pvR,List.map_append];rfl
     rw[e1,e2];exact ZeZ
    have hl4: ∀x:SM,(hpM n W G ([pvR p,cQ d]++ [x])).length=n+1+3:=fun x=>ZbL
    have hlp:(p++ [k]).length=p.length+1:=by rw[List.length_append];rfl
    refine Ent.eqs (hfin _) (ZyE (e:=3) rfl rfl (Nat.zero_le _) ?_)
    refine⟨rfl,ZbQ (by omega),rfl,ZfL, ?_,ZbQ (by omega),congrArg (fun x=>some (SV.v (.i .i64) x)) (Zd7 (by omega)),ZfL,trivial⟩
    show some (SV.ref (hpM n W G ([pvR p,cQ d]++ [_])).length 0 (p.length+1) none)=some (SV.ref (if n+1=n+1 then n+1+3 else n+1) 0 (p++ [k]).length none)
    rw[hl4,if_pos rfl,hlp]
end Go.Proofs.YtdnodlkdndfplaaGreatDoor
