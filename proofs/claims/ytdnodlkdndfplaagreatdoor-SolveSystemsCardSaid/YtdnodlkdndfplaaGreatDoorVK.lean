/-
 The reference's System.
-/
import Derived.Test.YtdnodlkdndfplaaGreatDoorVJ
set_option linter.constructorNameAsVariable false
set_option linter.unusedSimpArgs false
set_option linter.unusedVariables false
namespace Go.Proofs.YtdnodlkdndfplaaGreatDoor
open Go.Am Go.Tx Dv Go.Lib La
set_option maxRecDepth 100000
def vSG (n r a:Nat) (M:Mx) (x:Nat→Rat) (k:Nat):TM:=[(2,nt (n+1)),(8, .ref 0 0 r none),(11, .ref 1 0 (n+1) none),(14,nt a),(26, .v .s (ZaX (M a (n+1)-S k fun j=>M a j*x j))),(175, .v (.l .s) (tvT n x)),(176,nt n),(177,nt k)]
def hpG (n r:Nat) (M:Mx) (out:List (List UInt8)):List SM:=[.row (.l .s) (tmT r (n+2) M) true, .row .s out true]
set_option maxHeartbeats 16000000 in
theorem ZCh (n r a K Z:Nat) (M:Mx) (x:Nat→Rat) (out:List (List UInt8)) (hn:n≤5) (ha:a<r) (hKZ:K+(2+5*(K+Z+1))≤40000)
 (hd: ∀i j,i<r→j<n+2→dz (M i j) K) (hx: ∀j,j<n→dz (x j) Z):
 LoopOK Tryz.prog Zan 0 ⟨27,0,209⟩ (Zbz Tryz.f27 46) (vSG n r a M x 0) (hpG n r M out)
 (fun e tm hp=>e= .exit 10∧Ent 0 tm hp [(2,nt (n+1)),(8, .ref 0 0 r none),(11, .ref 1 0 (n+1) none),(14,nt a),(26, .v .s (ZaX (M a (n+1)-S n fun j=>M a j*x j)))] (hpG n r M out)):=by
 refine Zat Zaa rfl (vSG n r a M x) (fun _=>hpG n r M out) (fun k=>k≤n) (fun k=>n-k) ?_ 0 (Nat.zero_le _) ZaU
 intro k hk
 cases h1:decide ((k:Int)<(n:Int))with
 |false=>
  have he:k=n:=by have:=of_decide_eq_false h1;omega
  subst he
  refine Zas ?_
  refine Zad ?_
  refine Zaq ?_
  refine brF h1 ?_
  exact⟨rfl,Zap ⟨rfl,rfl,rfl,rfl,rfl,trivial⟩⟩
 |true=>
  have hlt:k<n:=by have:=of_decide_eq_true h1;omega
  have ca:=cin ha
  have gx:=ZuQ (W:=n) (u:=x) hlt
  have gr:=Zzv (W:=n+2) (f:=M) ha
  have ga:=ZuQ (W:=n+2) (u:=M a) (j:=k) (by omega)
  have dS:dz (S k fun j=>M a j*x j) (1+k*(K+Z+1)):=ZBC fun j hj=>Zj3 (hd a j ha (by omega)) (hx j (by omega))
  have h5:k*(K+Z+1)≤5*(K+Z+1):=Nat.mul_le_mul (by omega) (Nat.le_refl _)
  have dR:dz (M a (n+1)-S k fun j=>M a j*x j) (K+(1+k*(K+Z+1))+1):=by rw[Rat.sub_eq_add_neg];exact Zpu (hd a (n+1) ha (by omega)) (Zpi dS)
  have hM:=Zlf (M a k) (x k) (k:=K+Z) (by omega) (ZbM (by omega) (hd a k ha (by omega))) (ZbM (by omega) (hx k hlt))
  have hS:=ZlL (M a (n+1)-S k fun j=>M a j*x j) (M a k*x k) (k:=40000) (Nat.le_refl _) (ZbM (by omega) dR) (ZbM (by omega) (Zj3 (hd a k ha (by omega)) (hx k hlt)))
  have eN:M a (n+1)-(S k fun j=>M a j*x j)-M a k*x k=M a (n+1)-S (k+1) fun j=>M a j*x j:=by rw[Zzz];grind
  rw[eN]at hS
  obtain⟨rowa,erowa⟩: ∃y,tvT (n+2) (M a)=y:=⟨_,rfl⟩
  obtain⟨x1,ex1⟩: ∃y,ZaX (M a k)=y:=⟨_,rfl⟩
  obtain⟨x2,ex2⟩: ∃y,ZaX (x k)=y:=⟨_,rfl⟩
  obtain⟨x3,ex3⟩: ∃y,ZaX (M a k*x k)=y:=⟨_,rfl⟩
  rw[erowa]at gr ga
  rw[ex1]at ga
  rw[ex2]at gx
  rw[ex1,ex2,ex3]at hM
  rw[ex3]at hS
  refine Zas ?_
  refine Zad ?_
  refine Zaq ?_
  refine brT h1 ?_
  refine Zas ?_
  refine Zad ?_
  refine ZcM rfl (fun _=>rfl) (Int.natCast_nonneg k) gx rfl rfl ?_
  iterate 3 refine Zad ?_
  refine Zaq ?_
  refine Zas ?_
  iterate 3 refine Zad ?_
  refine ZhR rfl (fun _=>rfl) ca rfl rfl ?_
  refine Zmj rfl (fun _=>rfl) gr rfl rfl ?_
  refine Zad ?_
  refine ZcM rfl (fun _=>rfl) (Int.natCast_nonneg k) ga rfl rfl ?_
  iterate 2 refine Zad ?_
  refine Zag rfl ((hM).mono ?_)
  rintro _ rfl
  refine Zab rfl rfl ?_
  refine Zag rfl ((hS).mono ?_)
  rintro _ rfl
  refine Zab rfl rfl ?_
  refine Zad ?_
  refine Zaq ?_
  refine Zas ?_
  iterate 2 refine Zad ?_
  refine Zaq ?_
  refine⟨k+1,hlt,by show n-(k+1)<n-k;omega, ?_⟩
  exact Zap ⟨rfl,rfl,rfl,rfl,rfl,rfl,rfl,congrArg (fun x=>some (SV.v (.i .i64) x)) (Zd7 (by omega)),trivial⟩
def Zv1 (n:Nat):Option (Nat→Rat)→SV
 |none=> .tup [.nils, .v .b false]
 |some x=> .tup [.v (.l .s) (tvT n x), .v .b true]
def cB:Nat→Nat→Nat
 |0,c=>c
 |n+1,c=>cB n (4*c+1)
theorem Zzr: ∀ (n c:Nat),c≤cB n c
 |0,_=>Nat.le_refl _
 |n+1,c=>Nat.le_trans (by omega) (Zzr n (4*c+1))
theorem ZxM {n r a K:Nat} {M:Mx} (ha:a<r) (hd: ∀i j,i<r→j<n+2→dz (M i j) K) (hz:M a n≠0): ∀i j,i<r-1→j<n+1→dz (Za3 n a M i j) (4*K+1):=fun i j hi hj=>by
 have h1:sk a i<r:=by have:=Zuh (k:=a) hi;omega
 have h2:sk n j<n+2:=Zuh hj
 have:=Zpu (hd (sk a i) (sk n j) h1 h2) (Zpi (Zj3 (Zuc (hd (sk a i) n h1 (by omega)) (hd a n ha (by omega)) hz) (hd a (sk n j) ha h2)))
 rw[←Rat.sub_eq_add_neg]at this
 exact ZbM (by omega) this
abbrev cxS:Cx:=⟨27,0,209⟩
theorem Zvp {α:Type} {l:List α} {n:Nat} {d y:α} (h:l.length=n):(l++ [d]).set n y=l++ [y]:=by
 subst h
 rw[List.set_append_right _ _ (Nat.le_refl _),Nat.sub_self];rfl
set_option maxHeartbeats 32000000 in
theorem Zxi: ∀ (n r:Nat) (M:Mx) (K:Nat),n≤5→r≤5→(∀i j,i<r→j<n+1→dz (M i j) K)→cB n K≤13000→(∀x,Zqn r n M x→ ∀j,j<n→dz (x j) 1900)→
 PureOK Tryz.prog Zan 27 [.v (.l (.l .s)) (tmT r n M), .v (.l .s) (tvT r fun i=>M i n),nt n] (fun V=>V=Zv1 n (ZgA n r M))
 |0,r,M,K,_,hr,hd,hB,hZ=>by
  refine ZeX (fn:=Tryz.f27) (code:=Zb1 Tryz.f27) Zaa (by kernel_rfl) rfl Tryz.func27 (by kernel_rfl) (Nat.le_of_ble_eq_true (by kernel_rfl)) ?_
  obtain⟨Q,eQ⟩: ∃Q:SV→Prop,(fun V=>V=Zv1 0 (ZgA 0 r M))=Q:=⟨_,rfl⟩
  rw[eQ]
  show CodeOK Tryz.prog Zan 0 cxS (Zb1 Tryz.f27) [(0, .v (.l (.l .s)) (tmT r 0 M)),(1, .v (.l .s) (tvT r fun i=>M i 0)),(2,nt 0)] [] (ZrM tys Tryz.f27.results.toList fun V hp=>ZdB hp 40 V Q)
  refine Zak (Zau Zaa ?_)
  refine Zas ?_
  iterate 2 refine Zad ?_
  refine Zaq ?_
  refine Zak (Zau Zaa ?_)
  refine Zas ?_
  refine Zad ?_
  refine Zaq ?_
  refine Zak (Zak (Zau Zaa ?_))
  refine Zas ?_
  iterate 3 refine Zad ?_
  refine Zaq ?_
  refine Zbi rfl (ZbV ?_)
  refine((ZB0 0 r M (by decide) (by omega)).ent ?_).mono ?_
  ·exact Zap ⟨rfl,rfl,rfl,rfl,congrArg (fun x=>some (SV.v (.i .i64) x)) (congrArg Int.ofNat (ZfJ (r:=r) (W:=0) (f:=M))),rfl,trivial⟩
  rintro _ tm hp ⟨rfl,hE⟩
  refine CodeOK.ent ?_ hE
  refine Zak (Zau Zaa ?_)
  have hmk:(0:Int)≤((0:Nat):Int)∧((0:Nat):Int)≤((0:Nat):Int)∧(16:Int)*((0:Nat):Int)≤281474976710656∧((0:Nat):Int)<9223372036854775808:=by omega
  refine Zas ?_
  refine Zad ?_
  refine Zag rfl (And.intro hmk ?_)
  refine Zab rfl rfl ?_
  refine Zad ?_
  refine Zaq ?_
  refine Zak (Zak (Zau Zaa ?_))
  refine Zas ?_
  iterate 2 refine Zad ?_
  refine Zaq ?_
  refine Zau Zaa ?_
  refine brT rfl ?_
  refine Zas ?_
  iterate 3 refine Zad ?_
  refine Zaq ?_
  refine((ZCt r M (by omega)).ent ?_).through ?_
  ·exact Zap ⟨rfl,rfl,rfl,rfl,trivial⟩
  rintro _ tm hp (⟨rfl,hf,hE⟩|⟨rfl,⟨a,hf⟩,hE⟩)
  ·refine⟨_,_,hE, ?_⟩
   show wp _ _ _ _ _ _ _ [SM.row (.l .s) (tmT r 1 M) true, .row .s [] true] _
   refine Zas ?_
   iterate 3 refine Zad ?_
   refine Zaq ?_
   have hQ:Q (.tup [.v (.l .s) [], .v .b true]):=by rw[←eQ];show _=Zv1 0 (ZgA 0 r M);rw[ZgA,hf];rfl
   exact⟨Nat.le_refl 0,hQ⟩
  ·refine⟨_,_,hE, ?_⟩
   have hQ:Q (.tup [.nils, .v .b false]):=by rw[←eQ];show _=Zv1 0 (ZgA 0 r M);rw[ZgA,hf];rfl
   exact hQ
 |n+1,r,M,K,hn,hr,hd,hB,hZ=>by
  refine ZeX (fn:=Tryz.f27) (code:=Zb1 Tryz.f27) Zaa (by kernel_rfl) rfl Tryz.func27 (by kernel_rfl) (Nat.le_of_ble_eq_true (by kernel_rfl)) ?_
  obtain⟨Q,eQ⟩: ∃Q:SV→Prop,(fun V=>V=Zv1 (n+1) (ZgA (n+1) r M))=Q:=⟨_,rfl⟩
  rw[eQ]
  show CodeOK Tryz.prog Zan 0 cxS (Zb1 Tryz.f27) [(0, .v (.l (.l .s)) (tmT r (n+1) M)),(1, .v (.l .s) (tvT r fun i=>M i (n+1))),(2,nt (n+1))] [] (ZrM tys Tryz.f27.results.toList fun V hp=>ZdB hp 40 V Q)
  have hB1:4*K+1≤13000:=Nat.le_trans (Zzr n (4*K+1)) hB
  refine Zak (Zau Zaa ?_)
  refine Zas ?_
  iterate 2 refine Zad ?_
  refine Zaq ?_
  refine Zak (Zau Zaa ?_)
  refine Zas ?_
  refine Zad ?_
  refine Zaq ?_
  refine Zak (Zak (Zau Zaa ?_))
  refine Zas ?_
  iterate 3 refine Zad ?_
  refine Zaq ?_
  refine Zbi rfl (ZbV ?_)
  refine((ZB0 (n+1) r M (by omega) (by omega)).ent ?_).mono ?_
  ·exact Zap ⟨rfl,rfl,rfl,rfl,congrArg (fun x=>some (SV.v (.i .i64) x)) (congrArg Int.ofNat (ZfJ (r:=r) (W:=n+1) (f:=M))),rfl,trivial⟩
  rintro _ tm hp ⟨rfl,hE⟩
  refine CodeOK.ent ?_ hE
  have hmk:(0:Int)≤((n+1:Nat):Int)∧((n+1:Nat):Int)≤((n+1:Nat):Int)∧(16:Int)*((n+1:Nat):Int)≤281474976710656∧((n+1:Nat):Int)<9223372036854775808:=by omega
  refine Zak (Zau Zaa ?_)
  refine Zas ?_
  refine Zad ?_
  refine Zag rfl (And.intro hmk ?_)
  refine Zab rfl rfl ?_
  refine Zad ?_
  refine Zaq ?_
  have h0:decide (((n+1:Nat):Int)=(0:Int))=false:=by rw[decide_eq_false_iff_not];omega
  refine Zak (Zak (Zau Zaa ?_))
  refine Zas ?_
  iterate 2 refine Zad ?_
  refine Zaq ?_
  refine Zau Zaa ?_
  refine brF h0 ?_
  refine CodeOK.ent (tm':=[(2,nt (n+1)),(8, .ref 0 0 r none),(11, .ref 1 0 (n+1) none)]) (hp':=hpB n r M) ?_ (Zap ⟨rfl,rfl,rfl,trivial⟩)
  refine Zak (Zau Zaa ?_)
  refine Zas ?_
  refine Zad ?_
  refine Zaq ?_
  refine Zak (Zak (Zau Zaa ?_))
  refine Zas ?_
  iterate 3 refine Zad ?_
  refine Zaq ?_
  refine Zbi rfl (ZbV ?_)
  refine((ZCx n r M (by omega) (by omega)).ent ?_).mono ?_
  ·exact Zap ⟨rfl,rfl,rfl,rfl,rfl,rfl,rfl,trivial⟩
  rintro _ tm hp ⟨rfl,hE⟩
  refine CodeOK.ent ?_ hE
  cases hf:Zep (fun i=>decide (M i n≠0)) r with
  |none=>
   refine Zak (Zak (Zau Zaa ?_))
   refine Zas ?_
   iterate 2 refine Zad ?_
   refine Zaq ?_
   refine Zau Zaa ?_
   refine brT rfl ?_
   refine Zas ?_
   iterate 2 refine Zad ?_
   refine Zaq ?_
   refine Zc0 ?_
   repeat (first|refine ZdT ?_|refine ZdX ?_|refine ZcX ?_)
   have hQ:Q (.tup [.nils, .v .b false]):=by rw[←eQ];show _=Zv1 (n+1) (ZgA (n+1) r M);rw[ZgA,hf];rfl
   exact hQ
  |some a=>
   obtain⟨ha,h2⟩:=Zew hf
   have hz:M a n≠0:=of_decide_eq_true h2
   have h3:decide ((a:Int)<(0:Int))=false:=by rw[decide_eq_false_iff_not];omega
   have hw:=ZyQ n (by omega)
   refine Zak (Zak (Zau Zaa ?_))
   refine Zas ?_
   iterate 2 refine Zad ?_
   refine Zaq ?_
   refine Zau Zaa ?_
   refine brF h3 ?_
   refine CodeOK.ent (tm':=[(2,nt (n+1)),(8, .ref 0 0 r none),(11, .ref 1 0 (n+1) none),(14,nt a)]) (hp':=hpB n r M) ?_ (Zap ⟨rfl,rfl,rfl,rfl,trivial⟩)
   refine Zak (Zau Zaa ?_)
   refine Zas ?_
   refine Zad ?_
   refine Zaq ?_
   refine Zak (Zau Zaa ?_)
   refine Zas ?_
   refine Zad ?_
   refine Zaq ?_
   refine Zak (Zak (Zau Zaa ?_))
   refine Zas ?_
   iterate 3 refine Zad ?_
   refine Zaq ?_
   refine Zbi rfl (ZbV ?_)
   refine((ZCd n r a K M (by omega) (by omega) ha (by omega) hd hz).ent ?_).mono ?_
   ·refine Ent.trans (tm1:=[(2,nt (n+1)),(8, .ref 0 0 r none),(11, .ref 1 0 (n+1) none),(14,nt a),(17, .nils),(18, .nils),(86, .ref 0 0 r none),(87,nt r),(88,nt 0)]) (hp1:=hpB n r M) (Zap ⟨rfl,rfl,rfl,rfl,rfl,rfl,rfl,rfl,rfl,trivial⟩) ?_
    refine Ent.trans (tm1:=[(2,nt (n+1)),(8, .ref 0 0 r none),(11, .ref 1 0 (n+1) none),(14,nt a),(17, .ref 2 0 0 none),(18, .nils),(86, .ref 0 0 r none),(87,nt r),(88,nt 0)]) (hp1:=hpB n r M++ [.row (.l .s) [] true]) (Zk0 (k:=17) (ct:= .l .s) (Nat.zero_le _) rfl (fun i V hb h=>by
     simp only[Zbj,hb]at h⊢
     exact h) rfl) ?_
    refine Zk0 (k:=18) (ct:= .s) (Nat.zero_le _) rfl (fun i V hb h=> ?_) rfl
    simp only[vSC,Zbj,hb]at h⊢
    exact h
   rintro _ tm hp ⟨rfl,hE⟩
   refine CodeOK.ent ?_ hE
   have hcr:cnt a r=r-1:=by unfold cnt;rw[if_neg (by omega)]
   have hrec:=Zxi n (r-1) (Za3 n a M) (4*K+1) (by omega) (by omega) (ZxM ha hd hz) hB (fun x hs j hj=>by
    have:=hZ _ (Zjd ha hz hs) j (by omega)
    rw[ZfE hj]at this
    exact this)
   have e1:sub (tmT (cnt a r) n (Za3 n a M)) 0 (r-1)=tmT (r-1) n (Za3 n a M):=by rw[hcr,sub,List.drop_zero,List.take_of_length_le (by rw[ZfJ];exact Nat.le_refl _)]
   have e2:sub (tvT (cnt a r) fun j=>Za3 n a M j n) 0 (r-1)=tvT (r-1) fun j=>Za3 n a M j n:=by rw[hcr,sub,List.drop_zero,List.take_of_length_le (by rw[ZbO];exact Nat.le_refl _)]
   have l1:0+(r-1)≤(tmT (cnt a r) n (Za3 n a M)).length:=by rw[ZfJ,hcr];omega
   have l2:0+(r-1)≤(tvT (cnt a r) fun j=>Za3 n a M j n).length:=by rw[ZbO,hcr];omega
   have hrec:PureOK Tryz.prog Zan 27 [.v (.l (.l .s)) (sub (tmT (cnt a r) n (Za3 n a M)) 0 (r-1)), .v (.l .s) (sub (tvT (cnt a r) fun j=>Za3 n a M j n) 0 (r-1)), .v (.i .i64) (IntKind.i64.wrap (((n+1:Nat):Int)-1))] (fun V=>V=Zv1 n (ZgA n (r-1) (Za3 n a M))):=by
    rw[hw,e1,e2];exact hrec
   show CodeOK _ _ _ _ _ _ [SM.row (.l .s) (tmT r (n+2) M) true, .row .s (List.replicate (n+1) []) true, .row (.l .s) (tmT (cnt a r) n (Za3 n a M)) true, .row .s (tvT (cnt a r) fun j=>Za3 n a M j n) true] _
   obtain⟨less,el⟩: ∃x,tmT (cnt a r) n (Za3 n a M)=x:=⟨_,rfl⟩
   obtain⟨right,er⟩: ∃x,(tvT (cnt a r) fun j=>Za3 n a M j n)=x:=⟨_,rfl⟩
   rw[el,er]at hrec⊢
   rw[el]at l1
   rw[er]at l2
   cases hs:ZgA n (r-1) (Za3 n a M)with
   |none=>
    rw[hs]at hrec
    refine Zak (Zau Zaa ?_)
    refine Zas ?_
    iterate 4 refine Zad ?_
    refine Zag rfl ((And.intro l1 (And.intro l2 (hrec.mono ?_))))
    rintro _ rfl
    refine Zab rfl rfl ?_
    iterate 5 refine Zad ?_
    refine Zaq ?_
    refine Zak (Zak (Zau Zaa ?_))
    refine Zas ?_
    iterate 2 refine Zad ?_
    refine Zaq ?_
    refine Zau Zaa ?_
    refine brT rfl ?_
    refine Zas ?_
    iterate 2 refine Zad ?_
    refine Zaq ?_
    refine Zc0 ?_
    repeat (first|refine ZdT ?_|refine ZdX ?_|refine ZcX ?_)
    have hQ:Q (.tup [.nils, .v .b false]):=by rw[←eQ];show _=Zv1 (n+1) (ZgA (n+1) r M);rw[ZgA,hf];simp only[hs];rfl
    exact hQ
   |some x=>
    rw[hs]at hrec
    have hU:=Zgo n (r-1) (Za3 n a M) x hs
    have hx: ∀j,j<n→dz (x j) 1900:=fun j hj=>by
     have:=hZ _ (Zjd ha hz hU) j (by omega)
     rw[ZfE hj]at this
     exact this
    refine Zak (Zau Zaa ?_)
    refine Zas ?_
    iterate 4 refine Zad ?_
    refine Zag rfl ((And.intro l1 (And.intro l2 (hrec.mono ?_))))
    rintro _ rfl
    refine Zab rfl rfl ?_
    iterate 5 refine Zad ?_
    refine Zaq ?_
    refine Zak (Zak (Zau Zaa ?_))
    refine Zas ?_
    iterate 2 refine Zad ?_
    refine Zaq ?_
    refine Zau Zaa ?_
    refine brF rfl ?_
    refine CodeOK.ent (tm':=[(2,nt (n+1)),(8, .ref 0 0 r none),(11, .ref 1 0 (n+1) none),(14,nt a),(24, .v (.l .s) (tvT n x))]) (hp':=hpG n r M (List.replicate (n+1) [])) ?_ (ZfZ [0,1] ⟨rfl,rfl,rfl,rfl,trivial⟩ (by simp) ⟨rfl,ZfL,rfl,ZbQ (by show 0<2;decide),rfl,ZbQ (by show 1<2;decide),rfl,ZfL,rfl,ZfL,trivial⟩)
    have lc:0+(n+1)≤(List.replicate (n+1) ([]:List UInt8)).length:=by rw[List.length_replicate];omega
    refine Zak (Zau Zaa ?_)
    refine Zas ?_
    iterate 2 refine Zad ?_
    refine Zag rfl (And.intro lc ?_)
    refine Zab rfl rfl ?_
    refine Zaq ?_
    have eo:spl (List.replicate (n+1) ([]:List UInt8)) 0 ((tvT n x).take (n+1))=tvT n x++ [[]]:=by
     rw[List.take_of_length_le (by rw[ZbO];omega),spl,List.take_zero,List.nil_append,ZbO,List.drop_replicate]
     rw[show n+1-(0+n)=1 by omega];rfl
    refine CodeOK.ent (tm':=[(2,nt (n+1)),(8, .ref 0 0 r none),(11, .ref 1 0 (n+1) none),(14,nt a),(24, .v (.l .s) (tvT n x))]) (hp':=hpG n r M (tvT n x++ [[]])) ?_ (ZfZ [0,1] ⟨rfl,rfl,congrArg (fun x=>some (SM.row .s x true)) eo,rfl,trivial⟩ (by simp) ⟨rfl,ZfL,rfl,ZbQ (by show 0<2;decide),rfl,ZbQ (by show 1<2;decide),rfl,ZfL,rfl,ZfL,trivial⟩)
    have ca:=cin ha
    have gr:=Zzv (W:=n+2) (f:=M) ha
    have ga1:=ZuQ (W:=n+2) (u:=M a) (j:=n+1) (by omega)
    have ga:(tvT (n+2) (M a))[(IntKind.i64.wrap (((n+1:Nat):Int)-1)).toNat]? =some (ZaX (M a n)):=by rw[hw];exact ZuQ (by omega)
    have hz0:(0:Int)≤IntKind.i64.wrap (((n+1:Nat):Int)-1):=by rw[hw];omega
    refine Zak (Zau Zaa ?_)
    refine Zas ?_
    iterate 2 refine Zad ?_
    refine ZhR rfl (fun _=>rfl) ca rfl rfl ?_
    refine Zmj rfl (fun _=>rfl) gr rfl rfl ?_
    refine Zad ?_
    refine ZcM rfl (fun _=>rfl) (Int.natCast_nonneg (n+1:Nat)) ga1 rfl rfl ?_
    iterate 2 refine Zad ?_
    refine Zaq ?_
    refine Zak (Zak (Zau Zaa ?_))
    refine Zas ?_
    iterate 3 refine Zad ?_
    refine Zaq ?_
    refine Zbi rfl (ZbV ?_)
    have e0:M a (n+1)=M a (n+1)-S 0 fun j=>M a j*x j:=by rw[S];grind
    refine((ZCh n r a K 1900 M x (tvT n x++ [[]]) (by omega) ha (by omega) hd hx).ent ?_).mono ?_
    ·exact Zap ⟨rfl,rfl,rfl,rfl,congrArg (fun q=>some (SV.v .s (ZaX q))) e0,rfl,congrArg (fun x=>some (SV.v (.i .i64) x)) (congrArg Int.ofNat (ZbO (W:=n) (u:=x))),rfl,trivial⟩
    rintro _ tm hp ⟨rfl,hE⟩
    refine CodeOK.ent ?_ hE
    have dS:dz (S n fun j=>M a j*x j) (1+n*(K+1900+1)):=ZBC fun j hj=>Zj3 (hd a j ha (by omega)) (hx j (by omega))
    have h5:n*(K+1900+1)≤5*(K+1900+1):=Nat.mul_le_mul (by omega) (Nat.le_refl _)
    have dR:dz (M a (n+1)-S n fun j=>M a j*x j) (K+(1+n*(K+1900+1))+1):=by rw[Rat.sub_eq_add_neg];exact Zpu (hd a (n+1) ha (by omega)) (Zpi dS)
    have hD:=ZpB (M a (n+1)-S n fun j=>M a j*x j) (M a n) (k:=40000) (Nat.le_refl _) (ZbM (by omega) dR) (ZbM (by omega) (hd a n ha (by omega))) hz
    have cw:(0:Int)≤IntKind.i64.wrap (((n+1:Nat):Int)-1)∧IntKind.i64.wrap (((n+1:Nat):Int)-1)<(((n+1:Nat):Nat):Int):=by rw[hw];omega
    have gy:(tvT n x++ [[]])[0+(IntKind.i64.wrap (((n+1:Nat):Int)-1)).toNat]? =some []:=by
     rw[hw,Int.toNat_natCast,Nat.zero_add,List.getElem?_append_right (by rw[ZbO];exact Nat.le_refl _),ZbO,Nat.sub_self];rfl
    refine Zak (Zau Zaa ?_)
    refine Zas ?_
    iterate 6 refine Zad ?_
    refine ZhR rfl (fun _=>rfl) ca rfl rfl ?_
    refine Zmj rfl (fun _=>rfl) gr rfl rfl ?_
    iterate 2 refine Zad ?_
    refine ZcM rfl (fun _=>rfl) hz0 ga rfl rfl ?_
    refine Zad ?_
    refine Zag rfl ((hD).mono ?_)
    rintro _ rfl
    refine Zab rfl rfl ?_
    refine ZhR rfl (fun _=>rfl) cw rfl rfl ?_
    refine Zag rfl (Zh1 rfl rfl rfl rfl rfl gy rfl rfl rfl ?_)
    refine Zcb rfl ?_
    refine Zaq ?_
    have eF:(tvT n x++ [[]]).set (0+(IntKind.i64.wrap (((n+1:Nat):Int)-1)).toNat) (ZaX ((M a (n+1)-S n fun j=>M a j*x j)/M a n))=tvT (n+1) (Zh0 n a M x):=by
     rw[hw,Int.toNat_natCast,Nat.zero_add,Zvp ZbO,Zia,ZiH,ZsS fun j hj=>(ZfE hj).symm]
    refine CodeOK.ent (tm':=[(11, .ref 1 0 (n+1) none)]) (hp':=hpG n r M (tvT (n+1) (Zh0 n a M x))) ?_ (ZfZ [0,1] ⟨rfl,rfl,congrArg (fun x=>some (SM.row .s x true)) eF,rfl,trivial⟩ (by simp) ⟨rfl,ZbQ (by show 1<2;decide),trivial⟩)
    refine Zak (Zau Zaa ?_)
    refine Zas ?_
    iterate 3 refine Zad ?_
    refine Zaq ?_
    refine Zau Zaa ?_
    refine Zc0 ?_
    have hQ:Q (.tup [.v (.l .s) (tvT (n+1) (Zh0 n a M x)), .v .b true]):=by rw[←eQ];show _=Zv1 (n+1) (ZgA (n+1) r M);rw[ZgA,hf];simp only[hs];rfl
    have hx2:ZdB (hpG n r M (tvT (n+1) (Zh0 n a M x))) (37+2) (.ref 1 0 (n+1) none) (fun V=>Q (.tup [V, .v .b true])):=by
     refine ZkI (ct:= .s) rfl (by rw[ZbO];omega) ?_
     rw[ZpI ZbO]
     exact hQ
    exact hx2
end Go.Proofs.YtdnodlkdndfplaaGreatDoor
