/-
 solve.Solve; the law SolveSystems.
-/
import Derived.Test.YtdnodlkdndfplaaGreatDoorVK
import Derived.Test.YtdnodlkdndfplaaGreatDoorVL
import Derived.Test.YtdnodlkdndfplaaGreatDoorP5
set_option linter.constructorNameAsVariable false
set_option linter.unusedSimpArgs false
set_option linter.unusedVariables false
namespace Go.Proofs.YtdnodlkdndfplaaGreatDoor
open Go.Am Go.Tx Dv Go.Lib La
set_option maxRecDepth 100000
set_option maxHeartbeats 8000000 in
theorem Zvj (l:List (List UInt8)) (hl:l.length≤1000):PureOK Tryz.prog Zan 28 [.v (.l .s) l, .v (.l .s) l] (fun V=>V= .v .b true):=by
 refine Zac Zaa Tryz.func28 ?_
 refine And.intro (fun h=> ?_) (fun h=> ?_)
 ·have h':(!decide ((l.length:Int)=(l.length:Int)))=true:=h
  rw[decide_eq_true rfl]at h'
  cases h'
 refine Zat Zaa rfl (fun(i:Nat)=> [(0, .v (.l .s) l),(1, .v (.l .s) l),(11, .v (.l .s) l),(12, .v (.i .i64) (l.length:Int)),(13, .v (.i .i64) (i:Int))]) (fun _=> [])
  (fun i=>i≤l.length) (fun i=>l.length-i) ?_ 0 (Nat.zero_le _) ?_
 ·intro i hi
  refine And.intro (fun h=> ?_) (fun h=> ?_)
  ·have hlt:i<l.length:=by have h':(i:Int)<(l.length:Int):=of_decide_eq_true h;omega
   have gx:l[(i:Int).toNat]? =some l[i]:=by rw[Int.toNat_natCast,List.getElem?_eq_getElem hlt]
   have wi:IntKind.i64.wrap ((i:Int)+1)=((i+1:Nat):Int):=Zah (by omega) (by omega)
   obtain⟨s,hs⟩: ∃x,l[i]=x:=⟨_,rfl⟩
   rw[hs]at gx
   refine⟨s,Int.natCast_nonneg i,gx, ?_⟩
   refine⟨s,Int.natCast_nonneg i,gx, ?_⟩
   refine And.intro (fun h2=> ?_) (fun h2=> ?_)
   ·have h2':(!(s==s))=true:=h2
    have h3:(s==s)=true:=by simp
    rw[h3]at h2'
    cases h2'
   ·refine⟨i+1,hlt,by show l.length-(i+1)<l.length-i;omega, ?_⟩
    exact Zap ⟨rfl,rfl,rfl,rfl,congrArg (fun x=>some (SV.v (.i .i64) x)) wi,trivial⟩
  ·rfl
 ·exact Zap ⟨rfl,rfl,rfl,rfl,rfl,trivial⟩
theorem Zzp {q:Rat} {a b:Int} {e k:Nat} (h0:b≠0) (h1:q=(a:Rat)/(b:Rat)) (h2:a.natAbs≤2^e) (h3:b.natAbs≤2^e) (hk:2^e<10^k) (hk1:1≤k):dz q k:=by
 rw[h1,←Rat.divInt_eq_div]
 exact Zmp h0 (ZoD hk1 (Nat.lt_of_le_of_lt h2 hk)) (ZoD hk1 (Nat.lt_of_le_of_lt h3 hk))
theorem Zys: ∀n:Nat,(2^93)^n≤(10^28)^n:=fun n=>Nat.pow_le_pow_left (by decide) n
theorem Zwo {q:Rat} (h:dz q 12):q.den≤2^40∧q.num.natAbs≤2^40:=by
 have hp: ∀k,k≤12→10^k≤2^40:=fun k hk=>Nat.le_trans (Nat.pow_le_pow_right (by decide) hk) (by decide)
 exact⟨Nat.le_trans (Nat.le_of_lt (ZlP _)) (hp _ h.2),Nat.le_trans (Nat.le_of_lt (ZlP _)) (hp _ h.1)⟩
theorem RxDoorVM1pw {a b m n:Nat} (k:Nat) (h:a^m≤b^n) {x:Nat} (hx:x≤m*k) (ha:0<a) {y:Nat} (hy:n*k=y):a^x≤b^y:=by
 subst hy
 refine Nat.le_trans (Nat.pow_le_pow_right ha hx) ?_
 rw[Nat.pow_mul,Nat.pow_mul]
 exact Nat.pow_le_pow_left h k
theorem RxDoorVM1tl {k m:Nat} (h:k<m):10^k<10^m:=Nat.pow_lt_pow_right (by decide) h
theorem RxDoorVM1two {x y:Nat} (h:x≤y):2^x≤2^y:=Nat.pow_le_pow_right (by decide) h
theorem RxDoorVM1six {x y:Nat} (h:6+x≤y):64*2^x≤2^y:=by
 rw[show 64=2^6 by decide,← Nat.pow_add]
 exact RxDoorVM1two h
theorem RxDoorVM1tp {a x w y:Nat} (h:a≤2^x) (h2:x*w≤y):a^w≤2^y:=by
 refine Nat.le_trans (Nat.pow_le_pow_left h w) ?_
 rw[← Nat.pow_mul]
 exact RxDoorVM1two h2
theorem Zxy {n w m:Nat} {p:Nat→Nat} {A N:Mx} {x:Nat→Rat} (hn:n≤5) (hw:w≤5) (hd: ∀i j,i<n→j<w+1→dz (A i j) 12) (hR:REq n (w+1) A N) (hE:Ech n w m p N) (hU:Zqn n w A x): ∀j,j<w→dz (x j) 1900:=by
 intro j hj
 obtain⟨L,hI⟩:=ZrS n (w+1) 40 A fun i j hi hj=>Zwo (hd i j hi hj)
 have hL: ∀i,i<n→(fun _:Nat=>(L:Rat)) i≠0:=fun _ _=>Zfv hI.ne
 have hS:=REq.scales (n:=n) (W:=w+1) (M:=A) (L:=fun _=>(L:Rat)) hL
 have hR2:REq n (w+1) (fun i j=>(L:Rat)*A i j) N:=⟨fun y=>(hS.sol y).symm.trans (hR.sol y),fun k g hg=>(hS.min k g hg).symm.trans (hR.min k g hg)⟩
 obtain⟨a,b,h1,h2,h3,h4⟩:=ZqV hR2 hE ((hS.uniq x).1 hU) (B:=2^(40*(n*(w+1)+1))) (fun i j hi hj=>hI.z i j hi hj) j hj
 have e1:n*(w+1)≤5*6:=Nat.mul_le_mul hn (by omega)
 have hb:bd w (2^(40*(n*(w+1)+1)))≤2^6231:=Nat.le_trans (Zuj w (by omega)) (RxDoorVM1tp (x:=1246) (y:=6231) (RxDoorVM1six (y:=1246) (by omega)) (by omega))
 have hk:2^6231<10^1900:=Nat.lt_of_le_of_lt (RxDoorVM1pw (a:=2) (b:=10) (x:=6231) (y:=1876) (m:=93) (n:=28) 67 (by decide) (by decide) (by decide) rfl) (RxDoorVM1tl (k:=1876) (m:=1900) (by decide))
 exact Zzp (e:=6231) (k:=1900) h1 h2 (Nat.le_trans h3 hb) (Nat.le_trans h4 hb) hk (by decide)
theorem ZwQ {v:List (List UInt8)} (h:ZdP v=0): ∃qs:List Rat,v=qs.map ZaX∧(∀q∈qs,ZjJ q=true)∧qs.length≤40:=by
 obtain⟨h1,h2⟩:=Zmg h
 obtain⟨qs,rfl,h4⟩:=ZnF (Zg4 h2)
 exact⟨qs,rfl,h4,by rw[List.length_map]at h1;exact h1⟩
def bQ (qs:List Rat):Nat→Rat:=fun i=>qs.getD i 0
theorem Zqi {qs:List Rat} {i:Nat} (h:i<qs.length):bQ qs i=qs[i]:=by rw[bQ,List.getD_eq_getElem?_getD,List.getElem?_eq_getElem h];rfl
theorem ZzA {qs:List Rat} {n:Nat} (h:qs.length=n):qs.map Zcy=Zc6 n (bQ qs):=by
 apply List.ext_getElem?
 intro i
 by_cases hi:i<n
 ·rw[ZeG hi,List.getElem?_map,List.getElem?_eq_getElem (by omega),Zqi (by omega)];rfl
 ·rw[List.getElem?_eq_none (by rw[List.length_map];omega),List.getElem?_eq_none (by rw[Zbl];omega)]
theorem Zul {qs:List Rat} {n:Nat} {u:Nat→Rat} (h:qs.length=n) (hu: ∀i (hi:i<qs.length),u i=qs[i]):qs.map ZaX=tvT n u:=by
 apply List.ext_getElem?
 intro i
 by_cases hi:i<n
 ·rw[Zm7 hi,List.getElem?_map,List.getElem?_eq_getElem (by omega),hu i (by omega)];rfl
 ·rw[List.getElem?_eq_none (by rw[List.length_map];omega),List.getElem?_eq_none (by rw[ZbO];omega)]
theorem ZAw {pss:List (List Rat)} {W:Nat} {f:Mx} (h: ∀ps∈pss,ps.length=W) (hf: ∀i j,i<pss.length→j<W→f i j=mxQ pss i j):Zqb pss=tmT pss.length W f:=by
 apply List.ext_getElem?
 intro i
 by_cases hi:i<pss.length
 ·rw[Znn hi,ZuG hi]
  have hl:=h _ (List.getElem_mem hi)
  rw[Zul (u:=f i) hl fun j hj=>by
   rw[hf i j hi (by omega),mxQ,List.getD_eq_getElem?_getD,List.getD_eq_getElem?_getD,List.getElem?_eq_getElem hi,Option.getD_some,List.getElem?_eq_getElem hj,Option.getD_some]]
 ·rw[List.getElem?_eq_none (by rw[Zqb,List.length_map];omega),List.getElem?_eq_none (by rw[ZfJ];omega)]
def ZB8 (n W:Nat) (A:Mx) (X:SV) (e:Int):Prop:= ∃N p,Elm n (W+1) A W p N∧
 (((∃i,p.length≤i∧i<n∧N i W≠0)∧X= .nils∧e=8)∨((∀i,p.length≤i→i<n→N i W=0)∧p.length<W∧X= .nils∧e=10)∨((∀i,p.length≤i→i<n→N i W=0)∧W≤p.length∧ .tup [X, .v (.i .i64) e]=Zw7 ((List.range W).map fun i=>N i W)))
abbrev ZAz (pss:List (List Rat)) (qs:List Rat) (X:SV) (e:Int):Prop:=ZB8 pss.length (ZdF pss) (Zhs (ZdF pss) (mxQ pss) (bQ qs)) X e
def ZB6 (m:List (List (List UInt8))) (b:List (List UInt8)) (X:SV) (e:Int):Prop:=
 (decide (Zny (Zjy m) (ZdP b)=0)=false∧X= .nils∧e=Zny (Zjy m) (ZdP b))∨(Zjy m=0∧ZdP b=0∧(!decide ((b.length:Int)=(m.length:Int)))=true∧X= .nils∧e=3)∨
 (Zjy m=0∧ZdP b=0∧(!decide ((b.length:Int)=(m.length:Int)))=false∧ ∃pss qs,Mat m pss∧b=qs.map ZaX∧qs.length=pss.length∧ZAz pss qs X e)
set_option maxHeartbeats 16000000 in
theorem Zu0 (m:List (List (List UInt8))) (b:List (List UInt8)) (hm: ∀v∈m,∀a∈v,a.length≤9223372036854775806) (hb: ∀a∈b,a.length≤9223372036854775806):
 PureOK Tryz.prog Zan 25 [.v (.l (.l .s)) m, .v (.l .s) b] (fun V=> ∃X e,V= .tup [X, .v (.i .i64) e]∧ZB6 m b X e):=by
 refine Zac Zaa Tryz.func25 ?_
 have hC:=ZuR m hm
 have hD:=ZkA b hb
 refine Zas ?_
 iterate 2 refine Zad ?_
 refine Zaq ?_
 refine Zas ?_
 refine Zad ?_
 refine Zag rfl ((hC).mono ?_)
 rintro _ rfl
 refine Zab rfl rfl ?_
 refine Zad ?_
 refine Zaq ?_
 cases h0:decide (Zjy m=0)with
 |false=>
  have h1:(!decide (Zjy m=0))=true:=by rw[h0];rfl
  have ef:Zny (Zjy m) (ZdP b)=Zjy m:=by rw[Zny,h0]
  refine Zas ?_
  iterate 2 refine Zad ?_
  refine Zaq ?_
  refine brT h1 ?_
  refine Zas ?_
  iterate 3 refine Zad ?_
  refine Zaq ?_
  exact⟨.nils,_,rfl, .inl ⟨by rw[ef];exact h0,rfl,ef.symm⟩⟩
 |true=>
  have h1:(!decide (Zjy m=0))=false:=by rw[h0];rfl
  have ef:Zny (Zjy m) (ZdP b)=ZdP b:=by rw[Zny,h0]
  refine Zas ?_
  iterate 2 refine Zad ?_
  refine Zaq ?_
  refine brF h1 ?_
  refine Zas ?_
  refine Zad ?_
  refine Zag rfl ((hD).mono ?_)
  rintro _ rfl
  refine Zab rfl rfl ?_
  refine Zad ?_
  refine Zaq ?_
  cases h2:decide (ZdP b=0)with
  |false=>
   have h3:(!decide (ZdP b=0))=true:=by rw[h2];rfl
   refine Zas ?_
   iterate 2 refine Zad ?_
   refine Zaq ?_
   refine brT h3 ?_
   refine Zas ?_
   iterate 3 refine Zad ?_
   refine Zaq ?_
   exact⟨.nils,_,rfl, .inl ⟨by rw[ef];exact h2,rfl,ef.symm⟩⟩
  |true=>
   have h3:(!decide (ZdP b=0))=false:=by rw[h2];rfl
   refine Zas ?_
   iterate 2 refine Zad ?_
   refine Zaq ?_
   refine brF h3 ?_
   cases h4:(!decide ((b.length:Int)=(m.length:Int)))with
   |true=>
    refine Zas ?_
    iterate 5 refine Zad ?_
    refine Zaq ?_
    refine brT h4 ?_
    refine Zas ?_
    iterate 2 refine Zad ?_
    refine Zaq ?_
    exact⟨.nils,_,rfl, .inr (.inl ⟨of_decide_eq_true h0,of_decide_eq_true h2,h4,rfl,rfl⟩)⟩
   |false=>
    obtain⟨pss,hM⟩:=Zt6 (of_decide_eq_true h0)
    obtain⟨qs,hq,hqf,hql⟩:=ZwQ (of_decide_eq_true h2)
    have hlen:qs.length=pss.length:=by
     have h5:decide ((b.length:Int)=(m.length:Int))=true:=by rw[Bool.not_eq_false']at h4;exact h4
     have h6:=of_decide_eq_true h5
     rw[hq,hM.txt,Zqb,List.length_map,List.length_map]at h6
     omega
    have hl:=hM.len
    have hw:=hM.wid
    have hV:=Zwz pss (by omega) (fun ps h=>by have:=hM.row ps h;omega) hM.fit
    have hP:=ZjS qs (by omega) hqf
    rw[←hM.txt]at hV
    rw[←hq]at hP
    rw[ZzT hM.row]at hV
    have eQL:QL qs= .v (.l qct) (Zc6 pss.length (bQ qs)):=congrArg (SV.v (.l qct)) (ZzA hlen)
    rw[eQL]at hP
    have hfa: ∀i j,i<pss.length→j<ZdF pss+1→ZjJ (Zhs (ZdF pss) (mxQ pss) (bQ qs) i j)=true:=fun i j hi hj=>by
     unfold Zhs
     split
     ·rename_i hjw
      obtain⟨ps,g1,g2⟩:=Zsv (i:=i) hM.row hi hjw
      exact hM.fit ps g1 _ g2
     ·rw[Zqi (by omega)]
      exact hqf _ (List.getElem_mem _)
    have hS:=ZvZ pss.length (ZdF pss) 20000000 (mxQ pss) (bQ qs) (by omega) (by omega) (fun h=>by rw[List.length_eq_zero_iff.1 h];rfl) (by decide) (Zz0 hl (by omega) hfa)
    obtain⟨W,eW⟩: ∃x,ZdF pss=x:=⟨_,rfl⟩
    have fin: ∀X e,ZAz pss qs X e→ ∃X' e',SV.tup [X, .v (.i .i64) e]= .tup [X', .v (.i .i64) e']∧ZB6 m b X' e':=fun X e h=>⟨X,e,rfl, .inr (.inr ⟨of_decide_eq_true h0,of_decide_eq_true h2,h4,pss,qs,hM,hq,hlen,h⟩)⟩
    refine Zas ?_
    iterate 5 refine Zad ?_
    refine Zaq ?_
    refine brF h4 ?_
    refine Zas ?_
    refine Zad ?_
    refine Zag rfl ((hV).mono ?_)
    rintro _ rfl
    refine Zab rfl rfl ?_
    refine Zad ?_
    refine Zag rfl ((hP).mono ?_)
    rintro _ rfl
    refine Zab rfl rfl ?_
    refine Zag rfl ((hS).mono ?_)
    rintro _ ⟨N,p,hE,(⟨hx,rfl⟩|⟨hz,hp,rfl⟩|⟨hz,hp,rfl⟩)⟩
    refine Zab rfl rfl ?_
    ·iterate 5 refine Zad ?_
     refine Zaq ?_
     refine Zas ?_
     refine Zad ?_
     refine Zaq ?_
     refine Zas ?_
     iterate 2 refine Zad ?_
     refine Zaq ?_
     refine brT rfl ?_
     refine Zas ?_
     iterate 2 refine Zad ?_
     refine Zaq ?_
     refine Zc0 ?_
     repeat (first|refine ZdT ?_|refine ZdX ?_|refine ZcX ?_)
     exact fin .nils 8 ⟨N,p,hE, .inl ⟨hx,rfl,rfl⟩⟩
    ·refine Zab rfl rfl ?_
     iterate 5 refine Zad ?_
     refine Zaq ?_
     refine Zas ?_
     refine Zad ?_
     refine Zaq ?_
     refine Zas ?_
     iterate 2 refine Zad ?_
     refine Zaq ?_
     refine brF rfl ?_
     refine Zas ?_
     iterate 2 refine Zad ?_
     refine Zaq ?_
     refine brT rfl ?_
     refine Zas ?_
     iterate 2 refine Zad ?_
     refine Zaq ?_
     refine Zc0 ?_
     repeat (first|refine ZdT ?_|refine ZdX ?_|refine ZcX ?_)
     exact fin .nils 10 ⟨N,p,hE, .inr (.inl ⟨hz,hp,rfl,rfl⟩)⟩
    ·have hT:=Zuk ((List.range (ZdF pss)).map fun i=>N i (ZdF pss)) (by rw[List.length_map,List.length_range];omega)
     have eT:QL ((List.range (ZdF pss)).map fun i=>N i (ZdF pss))= .v (.l qct) (Zc6 (ZdF pss) fun i=>N i (ZdF pss)):=by rw[Zc6];show SV.v (.l qct) (List.map Zcy (List.map _ _))=_;rw[List.map_map];rfl
     rw[eT]at hT
     refine Zab rfl rfl ?_
     iterate 5 refine Zad ?_
     refine Zaq ?_
     cases hf:Zru ((List.range (ZdF pss)).map fun i=>N i (ZdF pss))with
     |true=>
      have eV:Zw7 ((List.range (ZdF pss)).map fun i=>N i (ZdF pss))= .tup [.v (.l .s) (((List.range (ZdF pss)).map fun i=>N i (ZdF pss)).map ZaX), .v (.i .i64) (0:Int)]:=by rw[Zw7,hf]
      rw[eV]at hT
      refine Zas ?_
      refine Zad ?_
      refine Zaq ?_
      refine Zas ?_
      iterate 2 refine Zad ?_
      refine Zaq ?_
      refine brF rfl ?_
      refine Zas ?_
      iterate 2 refine Zad ?_
      refine Zaq ?_
      refine brF rfl ?_
      refine Zas ?_
      refine Zad ?_
      refine Zag rfl ((hT).mono ?_)
      rintro _ rfl
      refine Zab rfl rfl ?_
      iterate 4 refine Zad ?_
      refine Zaq ?_
      refine Zc0 ?_
      exact fin _ 0 ⟨N,p,hE, .inr (.inr ⟨hz,hp,eV.symm⟩)⟩
     |false=>
      have eV:Zw7 ((List.range (ZdF pss)).map fun i=>N i (ZdF pss))= .tup [.nils, .v (.i .i64) (2:Int)]:=by rw[Zw7,hf]
      rw[eV]at hT
      refine Zas ?_
      refine Zad ?_
      refine Zaq ?_
      refine Zas ?_
      iterate 2 refine Zad ?_
      refine Zaq ?_
      refine brF rfl ?_
      refine Zas ?_
      iterate 2 refine Zad ?_
      refine Zaq ?_
      refine brF rfl ?_
      refine Zas ?_
      refine Zad ?_
      refine Zag rfl ((hT).mono ?_)
      rintro _ rfl
      refine Zab rfl rfl ?_
      iterate 4 refine Zad ?_
      refine Zaq ?_
      refine Zc0 ?_
      exact fin _ 2 ⟨N,p,hE, .inr (.inr ⟨hz,hp,eV.symm⟩)⟩
theorem ZyF: ∀n,n≤5→cB n 12≤13000:=fun n hn=>by
 have h:n=0∨n=1∨n=2∨n=3∨n=4∨n=5:=by omega
 rcases h with rfl|rfl|rfl|rfl|rfl|rfl<;>decide
theorem ZxF (a:List (List (List UInt8))) (b:List (List UInt8)):PureOK Tryz.prog Zan 17 [.v (.i .i64) 5, .v (.l (.l (.l .s))) (sub [a,sub [b] 0 1] 0 2)] (fun V=>V= .v .b (ZiF ((5:Nat):Int) [a,[b]])):=
 ZAP 5 [a,[b]] (show 2≤1000 by decide) fun x _ h1=>⟨by omega,fun v _ h2=>by omega⟩
theorem ZxX {n W:Nat} {A:Mx} {X:SV} {e:Int} (h:ZB8 n W A X e) (hn:n≤5) (hw:W≤5) (hd: ∀i j,i<n→j<W+1→dz (A i j) 12):
 (ZgA W n A=none∧X= .nils∧(e=8∨e=10))∨ ∃x,ZgA W n A=some x∧X= .v (.l .s) (tvT W x)∧e=0:=by
 obtain⟨N,p,hE,h⟩:=h
 have hno:(∀x,¬Zqn n W A x)→ZgA W n A=none:=fun h=>by
  cases hs:ZgA W n A with
  |none=>rfl
  |some x=>exact absurd (Zgo W n A x hs) (h x)
 rcases h with⟨⟨i,h1,h2,h3⟩,rfl,rfl⟩|⟨hz,hp,rfl,rfl⟩|⟨hz,hp,hX⟩
 ·refine .inl ⟨hno fun x hu=> ?_,rfl, .inl rfl⟩
  exact hE.ech.none h1 h2 h3 x ((hE.req.sols x).1 hu.1)
 ·refine .inl ⟨hno fun x hu=> ?_,rfl, .inr rfl⟩
  exact hE.ech.many hp x ((hE.req.uniq x).1 hu)
 ·have hpl:p.length=W:=Nat.le_antisymm hE.ech.le hp
  have hech:=hE.ech
  rw[hpl]at hech
  have hU:=(hE.req.uniq _).2 (hech.one_sol fun i h1 h2=>hz i (by omega) h2)
  cases hs:ZgA W n A with
  |none=>exact absurd hU (Znv W n A hs _)
  |some x=>
   refine .inr ⟨x,rfl, ?_⟩
   have hx:=(Zgo W n A x hs).2 _ hU.1
   have hfit:Zru ((List.range W).map fun i=>N i W)=true:=Zql fun q hq=>by
    obtain⟨j,hj,rfl⟩:=List.mem_map.1 hq
    exact ZAA (by decide) (Zxy hn hw hd hE.req hE.ech hU j (List.mem_range.1 hj))
   rw[Zw7,hfit]at hX
   simp only[SV.tup.injEq,List.cons.injEq,and_true]at hX
   obtain⟨rfl,h2⟩:=hX
   refine⟨?_, ?_⟩
   ·rw[List.map_map]
    congr 1
    rw[tvT]
    exact List.map_congr_left fun j hj=>congrArg ZaX (hx j (List.mem_range.1 hj))
   ·simpa using h2
set_option maxHeartbeats 32000000 in
theorem ZjE (m:List (List (List UInt8))) (b:List (List UInt8)) (hm: ∀v∈m,∀a∈v,a.length≤9223372036854775806) (hb: ∀a∈b,a.length≤9223372036854775806):
 PureOK Tryz.prog Zan 6 [.v (.l (.l .s)) m, .v (.l .s) b] (fun V=>V= .v .b true):=by
 refine Zac Zaa Tryz.func6 ?_
 have hF:=ZnR
 have hS:=Zu0 m b hm hb
 have hE:=Zls m hm
 have hV:=Zkt b hb
 have hG:=Zsj (Zjy m) (ZdP b)
 have hW:=Zve m
 have hX:=ZxF m b
 refine Zas ?_
 refine Zad ?_
 refine Zaq ?_
 refine Zas ?_
 refine Zag rfl ((hF).mono ?_)
 rintro _ rfl
 refine Zab rfl rfl ?_
 refine Zad ?_
 refine Zaq ?_
 refine brF rfl ?_
 refine Zas ?_
 iterate 2 refine Zad ?_
 refine Zag rfl ((hS).mono ?_)
 rintro _ ⟨X,e,rfl,hD⟩
 refine Zab rfl rfl ?_
 iterate 5 refine Zad ?_
 refine Zaq ?_
 rcases hD with⟨d1,rfl,rfl⟩|⟨z1,z2,d3,rfl,rfl⟩|⟨z1,z2,d3,pss,qs,hM,hq,hlen,hOK⟩
 ·have d2:(!decide (Zny (Zjy m) (ZdP b)=0))=true:=by rw[d1];rfl
  have d4:decide (Zny (Zjy m) (ZdP b)=Zny (Zjy m) (ZdP b))=true:=decide_eq_true rfl
  refine Zas ?_
  refine Zad ?_
  refine Zag rfl ((hE).mono ?_)
  rintro _ rfl
  refine Zab rfl rfl ?_
  refine Zad ?_
  refine Zag rfl ((hV).mono ?_)
  rintro _ rfl
  refine Zab rfl rfl ?_
  refine Zn1 ?_
  refine Zag rfl (And.intro (show 0+2≤2 by decide) ((hG).mono ?_))
  rintro _ rfl
  refine Zab rfl rfl ?_
  refine Zad ?_
  refine Zaq ?_
  refine Zas ?_
  iterate 3 refine Zad ?_
  refine ZaL d1 ?_
  refine ZaL d1 ?_
  refine ZaL d1 ?_
  refine ZaL d1 ?_
  refine ZaL d1 ?_
  refine ZaW d1 ?_
  refine Zaq ?_
  refine brF rfl ?_
  refine Zas ?_
  iterate 2 refine Zad ?_
  refine Zaq ?_
  refine brT d2 ?_
  refine Zas ?_
  iterate 4 refine Zad ?_
  refine Zae d4 ?_
  refine Zae d4 ?_
  refine Zae d4 ?_
  refine ZaY d4 ?_
  refine Zad ?_
  refine Zaq ?_
  rfl
 ·have ef:Zny (Zjy m) (ZdP b)=0:=by rw[Zny,z1,z2];rfl
  rw[ef]at hG
  have d4:(!decide ((m.length:Int)=(b.length:Int)))=true:=by
   rw[Bool.not_eq_true',decide_eq_false_iff_not]at d3⊢
   exact fun h=>d3 h.symm
  refine Zas ?_
  refine Zad ?_
  refine Zag rfl ((hE).mono ?_)
  rintro _ rfl
  refine Zab rfl rfl ?_
  refine Zad ?_
  refine Zag rfl ((hV).mono ?_)
  rintro _ rfl
  refine Zab rfl rfl ?_
  refine Zn1 ?_
  refine Zag rfl (And.intro (show 0+2≤2 by decide) ((hG).mono ?_))
  rintro _ rfl
  refine Zab rfl rfl ?_
  refine Zad ?_
  refine Zaq ?_
  refine Zas ?_
  iterate 3 refine Zad ?_
  refine Zae rfl ?_
  refine Zae rfl ?_
  refine Zae rfl ?_
  refine Zae rfl ?_
  refine Zae rfl ?_
  refine ZaY rfl ?_
  refine Zaq ?_
  refine brT d4 ?_
  refine Zas ?_
  refine Zad ?_
  refine Zaq ?_
  refine Zas ?_
  iterate 2 refine Zad ?_
  refine Zaq ?_
  refine brT rfl ?_
  refine Zas ?_
  iterate 4 refine Zad ?_
  refine Zae rfl ?_
  refine Zae rfl ?_
  refine Zae rfl ?_
  refine ZaY rfl ?_
  refine Zad ?_
  refine Zaq ?_
  rfl
 ·have ef:Zny (Zjy m) (ZdP b)=0:=by rw[Zny,z1,z2];rfl
  rw[ef]at hG
  have d4:(!decide ((m.length:Int)=(b.length:Int)))=false:=by
   rw[Bool.not_eq_false',decide_eq_true_eq]at d3⊢
   exact d3.symm
  cases hv:ZiF ((5:Nat):Int) [m,[b]]with
  |true=>
   refine Zas ?_
   refine Zad ?_
   refine Zag rfl ((hE).mono ?_)
   rintro _ rfl
   refine Zab rfl rfl ?_
   refine Zad ?_
   refine Zag rfl ((hV).mono ?_)
   rintro _ rfl
   refine Zab rfl rfl ?_
   refine Zn1 ?_
   refine Zag rfl (And.intro (show 0+2≤2 by decide) ((hG).mono ?_))
   rintro _ rfl
   refine Zab rfl rfl ?_
   refine Zad ?_
   refine Zaq ?_
   refine Zas ?_
   iterate 3 refine Zad ?_
   refine Zae rfl ?_
   refine Zae rfl ?_
   refine Zae rfl ?_
   refine Zae rfl ?_
   refine Zae rfl ?_
   refine ZaY rfl ?_
   refine Zaq ?_
   refine brF d4 ?_
   refine Zas ?_
   iterate 2 refine Zad ?_
   refine Zaq ?_
   refine brF rfl ?_
   refine Zas ?_
   iterate 2 refine Zad ?_
   refine Zn1 ?_
   refine Zn1 ?_
   refine Zag rfl (And.intro (show 0+2≤2 by decide) (And.intro (show 0+1≤1 by decide) ((hX).mono ?_)))
   rintro _ rfl
   refine Zab rfl rfl ?_
   refine Zaq ?_
   refine brT hv ?_
   refine Zas ?_
   refine Zad ?_
   refine Zaq ?_
   rfl
  |false=>
   obtain⟨s1,s2,s3⟩:=ZvX (n:=5) (pss:=pss) hv (by rw[←hM.txt];exact List.mem_cons_self)
   obtain⟨t1,t2⟩:=ZtX (n:=5) (qs:=qs) hv (by rw[←hq];simp)
   have hW5:ZdF pss≤5:=by
    cases pss with
    |nil=>exact Nat.zero_le _
    |cons ps l=>have:=s2 ps List.mem_cons_self;exact this
   have hd: ∀i j,i<pss.length→j<ZdF pss+1→dz (Zhs (ZdF pss) (mxQ pss) (bQ qs) i j) 12:=fun i j hi hj=>by
    unfold Zhs
    split
    ·rename_i hjw
     obtain⟨ps,g1,g2⟩:=Zsv (i:=i) hM.row hi hjw
     exact s3 ps g1 _ g2
    ·rw[Zqi (by omega)]
     exact t2 _ (List.getElem_mem _)
   have hone:=ZxX hOK s1 hW5 hd
   have hZ: ∀x,Zqn pss.length (ZdF pss) (Zhs (ZdF pss) (mxQ pss) (bQ qs)) x→ ∀j,j<ZdF pss→dz (x j) 1900:=fun x hu=>by
    obtain⟨N,p,hEl,_⟩:=hOK
    exact Zxy s1 hW5 hd hEl.req hEl.ech hu
   have hR:=Zxi (ZdF pss) pss.length (Zhs (ZdF pss) (mxQ pss) (bQ qs)) 12 hW5 s1 hd (ZyF _ hW5) hZ
   have e1:tmT pss.length (ZdF pss) (Zhs (ZdF pss) (mxQ pss) (bQ qs))=m:=by
    rw[hM.txt];exact(ZAw hM.row fun i j _ hj=>if_pos hj).symm
   have e2:(tvT pss.length fun i=>Zhs (ZdF pss) (mxQ pss) (bQ qs) i (ZdF pss))=b:=by
    rw[hq]
    refine(Zul hlen fun i hi=> ?_).symm
    show(if ZdF pss<ZdF pss then _ else bQ qs i)=_
    rw[if_neg (Nat.lt_irrefl _),Zqi hi]
   have e3:wid m=ZdF pss:=by rw[hM.txt,Zup]
   rw[e1,e2]at hR
   rw[e3]at hW
   rcases hone with⟨hs,rfl,he⟩|⟨x,hs,rfl,rfl⟩
   ·rw[hs]at hR
    refine Zas ?_
    refine Zad ?_
    refine Zag rfl ((hE).mono ?_)
    rintro _ rfl
    refine Zab rfl rfl ?_
    refine Zad ?_
    refine Zag rfl ((hV).mono ?_)
    rintro _ rfl
    refine Zab rfl rfl ?_
    refine Zn1 ?_
    refine Zag rfl (And.intro (show 0+2≤2 by decide) ((hG).mono ?_))
    rintro _ rfl
    refine Zab rfl rfl ?_
    refine Zad ?_
    refine Zaq ?_
    refine Zas ?_
    iterate 3 refine Zad ?_
    refine Zae rfl ?_
    refine Zae rfl ?_
    refine Zae rfl ?_
    refine Zae rfl ?_
    refine Zae rfl ?_
    refine ZaY rfl ?_
    refine Zaq ?_
    refine brF d4 ?_
    refine Zas ?_
    iterate 2 refine Zad ?_
    refine Zaq ?_
    refine brF rfl ?_
    refine Zas ?_
    iterate 2 refine Zad ?_
    refine Zn1 ?_
    refine Zn1 ?_
    refine Zag rfl (And.intro (show 0+2≤2 by decide) (And.intro (show 0+1≤1 by decide) ((hX).mono ?_)))
    rintro _ rfl
    refine Zab rfl rfl ?_
    refine Zaq ?_
    refine brF hv ?_
    refine Zas ?_
    iterate 3 refine Zad ?_
    refine Zag rfl ((hW).mono ?_)
    rintro _ rfl
    refine Zab rfl rfl ?_
    refine Zag rfl ((hR).mono ?_)
    rintro _ rfl
    refine Zab rfl rfl ?_
    iterate 5 refine Zad ?_
    refine Zaq ?_
    refine Zas ?_
    iterate 2 refine Zad ?_
    refine Zaq ?_
    refine brT rfl ?_
    rcases he with rfl|rfl
    ·skip
     refine Zas ?_
     iterate 3 refine Zad ?_
     refine ZaL rfl ?_
     refine ZaL rfl ?_
     refine ZaY rfl ?_
     refine Zad ?_
     refine Zae rfl ?_
     refine Zae rfl ?_
     refine Zae rfl ?_
     refine ZaY rfl ?_
     refine Zad ?_
     refine Zaq ?_
     rfl
    ·skip
     refine Zas ?_
     iterate 3 refine Zad ?_
     refine Zae rfl ?_
     refine Zae rfl ?_
     refine ZaW rfl ?_
     refine Zad ?_
     refine Zae rfl ?_
     refine Zae rfl ?_
     refine Zae rfl ?_
     refine ZaY rfl ?_
     refine Zad ?_
     refine Zaq ?_
     rfl
   ·rw[hs]at hR
    have hEq:=Zvj (tvT (ZdF pss) x) (by rw[ZbO];omega)
    refine Zas ?_
    refine Zad ?_
    refine Zag rfl ((hE).mono ?_)
    rintro _ rfl
    refine Zab rfl rfl ?_
    refine Zad ?_
    refine Zag rfl ((hV).mono ?_)
    rintro _ rfl
    refine Zab rfl rfl ?_
    refine Zn1 ?_
    refine Zag rfl (And.intro (show 0+2≤2 by decide) ((hG).mono ?_))
    rintro _ rfl
    refine Zab rfl rfl ?_
    refine Zad ?_
    refine Zaq ?_
    refine Zas ?_
    iterate 3 refine Zad ?_
    refine Zae rfl ?_
    refine Zae rfl ?_
    refine Zae rfl ?_
    refine Zae rfl ?_
    refine Zae rfl ?_
    refine ZaY rfl ?_
    refine Zaq ?_
    refine brF d4 ?_
    refine Zas ?_
    iterate 2 refine Zad ?_
    refine Zaq ?_
    refine brF rfl ?_
    refine Zas ?_
    iterate 2 refine Zad ?_
    refine Zn1 ?_
    refine Zn1 ?_
    refine Zag rfl (And.intro (show 0+2≤2 by decide) (And.intro (show 0+1≤1 by decide) ((hX).mono ?_)))
    rintro _ rfl
    refine Zab rfl rfl ?_
    refine Zaq ?_
    refine brF hv ?_
    refine Zas ?_
    iterate 3 refine Zad ?_
    refine Zag rfl ((hW).mono ?_)
    rintro _ rfl
    refine Zab rfl rfl ?_
    refine Zag rfl ((hR).mono ?_)
    rintro _ rfl
    refine Zab rfl rfl ?_
    iterate 5 refine Zad ?_
    refine Zaq ?_
    refine Zas ?_
    iterate 2 refine Zad ?_
    refine Zaq ?_
    refine brF rfl ?_
    refine Zas ?_
    iterate 3 refine Zad ?_
    refine Zae rfl ?_
    refine Zae rfl ?_
    refine ZaP rfl rfl rfl rfl ((hEq).mono ?_)
    rintro _ rfl
    refine Zab rfl rfl ?_
    refine ZaY rfl ?_
    refine Zad ?_
    refine Zaq ?_
    rfl
end Go.Proofs.YtdnodlkdndfplaaGreatDoor
