/-
 The reference's System: what is left when one row has been taken off the others.
-/
import Derived.Test.YtdnodlkdndfplaaGreatDoorV8
set_option linter.constructorNameAsVariable false
set_option linter.unusedSimpArgs false
set_option linter.unusedVariables false
namespace Go.Proofs.YtdnodlkdndfplaaGreatDoor
open Go.Am Go.Tx Dv Go.Lib La
set_option maxRecDepth 100000
theorem Zmp {n d:Int} {k:Nat} (hd:d≠0) (h1:dl n.natAbs≤k) (h2:dl d.natAbs≤k):dz (Rat.divInt n d) k:=by
 rcases Int.lt_or_le d 0 with h|h
 ·rw[←Rat.neg_divInt_neg]
  obtain⟨m,hm⟩: ∃m:Nat,-d=m:=⟨(-d).toNat,by omega⟩
  rw[hm]
  refine Zif (by omega) (by rw[Int.natAbs_neg];exact h1) ?_
  have:d.natAbs=m:=by omega
  rw[←this]
  exact h2
 ·obtain⟨m,rfl⟩: ∃m:Nat,d=m:=⟨d.toNat,by omega⟩
  rw[Int.natAbs_natCast]at h2
  exact Zif (by omega) h1 h2
theorem Zuc {p q:Rat} {k m:Nat} (hp:dz p k) (hq:dz q m) (h0:q≠0):dz (p/q) (k+m):=by
 rw[←ZkG]
 obtain⟨p1,p2⟩:=hp
 obtain⟨q1,q2⟩:=hq
 have h1:=Zdn p.num.natAbs q.den
 have h3:=Zdn p.den q.num.natAbs
 have hn:q.num≠0:=fun h=>h0 (Rat.num_eq_zero.1 h)
 refine Zmp (Int.mul_ne_zero (by have:=Zdi p;omega) hn) ?_ ?_
 ·rw[Int.natAbs_mul,Int.natAbs_natCast];omega
 ·rw[Int.natAbs_mul,Int.natAbs_natCast];omega
theorem ZAn {H:List SM} {c1 c2:CT} {r1:List c1.D} {r2:List c2.D} {m1 m2:Bool} (e3:nth H 3=some (.row c1 r1 m1)) (e0:nth H 0=some (.row c2 r2 m2)):(Zff H 3&&Zdz H [0,0]&& !ZnZ 3 [0,0])=true:=by
 rw[Zl0 e3,Zdz,Zdz,Zdz,Zl0 e0];rfl
def vSD (n r a c i:Nat) (row:List (List UInt8)) (by_:List UInt8) (k:Nat):TM:=[(2,nt (n+1)),(8, .ref 0 0 r none),(11, .ref 1 0 (n+1) none),(14,nt a),(17, .ref 2 0 c none),(18, .ref 3 0 c none),(20, .v (.l .s) row),(21, .v .s by_),(22, .ref 4 0 k none),(86, .ref 0 0 r none),(87,nt r),(88,nt i),(111,nt n),(112,nt k)]
def hpD (n r:Nat) (M:Mx) (less:List (List (List UInt8))) (right v:List (List UInt8)):List SM:=[.row (.l .s) (tmT r (n+2) M) true, .row .s (List.replicate (n+1) []) true, .row (.l .s) less true, .row .s right true, .row .s v true]
theorem Zzv {r W i:Nat} {f:Mx} (hi:i<r):(tmT r W f)[0+(i:Int).toNat]? =some (tvT W (f i)):=by rw[Int.toNat_natCast,Nat.zero_add];exact Znn hi
theorem ZuQ {W j:Nat} {u:Nat→Rat} (hj:j<W):(tvT W u)[(j:Int).toNat]? =some (ZaX (u j)):=by rw[Int.toNat_natCast];exact Zm7 hj
set_option maxHeartbeats 16000000 in
theorem ZCc (n r a c i K:Nat) (M:Mx) (e:Nat→Rat) (less:List (List (List UInt8))) (right:List (List UInt8)) (hn:n≤1000) (ha:a<r) (hi:i<r) (hK:4*K+1≤40000)
 (hd: ∀i j,i<r→j<n+2→dz (M i j) K) (hz:M a n≠0) (he: ∀k,k<n→e k=M i k-M i n/M a n*M a k):
 LoopOK Tryz.prog Zan 0 ⟨27,0,209⟩ (Zbz Tryz.f27 34) (vSD n r a c i (tvT (n+2) (M i)) (ZaX (M i n/M a n)) 0) (hpD n r M less right [])
 (fun x tm hp=>x= .exit 8∧Ent 0 tm hp (vSD n r a c i (tvT (n+2) (M i)) (ZaX (M i n/M a n)) n) (hpD n r M less right (tvT n e))):=by
 refine Zat Zaa rfl (vSD n r a c i (tvT (n+2) (M i)) (ZaX (M i n/M a n))) (fun k=>hpD n r M less right (tvT k e)) (fun k=>k≤n) (fun k=>n-k) ?_ 0 (Nat.zero_le _) ZaU
 intro k hk
 cases h1:decide ((k:Int)<(n:Int))with
 |false=>
  have he:k=n:=by have:=of_decide_eq_false h1;omega
  subst he
  refine Zas ?_
  refine Zad ?_
  refine Zaq ?_
  refine brF h1 ?_
  exact⟨rfl,Zap ⟨rfl,rfl,rfl,rfl,rfl,rfl,rfl,rfl,rfl,rfl,rfl,rfl,rfl,rfl,trivial⟩⟩
 |true=>
  have hlt:k<n:=by have:=of_decide_eq_true h1;omega
  have ca:=cin ha
  have gi:=ZuQ (W:=n+2) (u:=M i) (j:=k) (by omega)
  have gr:=Zzv (W:=n+2) (f:=M) ha
  have ga:=ZuQ (W:=n+2) (u:=M a) (j:=k) (by omega)
  have dQ:dz (M i n/M a n) (K+K):=Zuc (hd i n hi (by omega)) (hd a n ha (by omega)) hz
  have hM:=Zlf (M i n/M a n) (M a k) (k:=2*K) (by omega) (ZbM (by omega) dQ) (ZbM (by omega) (hd a k ha (by omega)))
  have hS:=ZlL (M i k) (M i n/M a n*M a k) (k:=3*K) (by omega) (ZbM (by omega) (hd i k hi (by omega))) (ZbM (by omega) (Zj3 dQ (hd a k ha (by omega))))
  have hnext:tvT (k+1) e=tvT k e++ [ZaX (M i k-M i n/M a n*M a k)]:=by rw[Zia,he k hlt]
  have hvl:(tvT k e).length=k:=ZbO
  obtain⟨row,erow⟩: ∃x,tvT (n+2) (M i)=x:=⟨_,rfl⟩
  obtain⟨rowa,erowa⟩: ∃x,tvT (n+2) (M a)=x:=⟨_,rfl⟩
  obtain⟨x1,ex1⟩: ∃x,ZaX (M i k)=x:=⟨_,rfl⟩
  obtain⟨x2,ex2⟩: ∃x,ZaX (M a k)=x:=⟨_,rfl⟩
  obtain⟨x3,ex3⟩: ∃x,ZaX (M i n/M a n)=x:=⟨_,rfl⟩
  obtain⟨x4,ex4⟩: ∃x,ZaX (M i n/M a n*M a k)=x:=⟨_,rfl⟩
  obtain⟨x5,ex5⟩: ∃x,ZaX (M i k-M i n/M a n*M a k)=x:=⟨_,rfl⟩
  obtain⟨v,ev⟩: ∃x,tvT k e=x:=⟨_,rfl⟩
  rw[ex2,ex3,ex4]at hM
  rw[ex1,ex4,ex5]at hS
  rw[ex1]at gi
  rw[ex2]at ga
  rw[erow]at gi⊢
  rw[erowa]at ga gr
  rw[ex5]at hnext
  rw[ev]at hnext hvl⊢
  rw[ex3]
  have hz16:(k+ [x5].length)*16≤140737488355328:=by show(k+1)*16≤_;omega
  refine Zas ?_
  refine Zad ?_
  refine Zaq ?_
  refine brT h1 ?_
  refine Zas ?_
  iterate 2 refine Zad ?_
  refine Zaq ?_
  refine Zas ?_
  iterate 3 refine Zad ?_
  refine ZcM rfl (fun _=>rfl) (Int.natCast_nonneg k) gi rfl rfl ?_
  iterate 4 refine Zad ?_
  refine ZhR rfl (fun _=>rfl) ca rfl rfl ?_
  refine Zmj rfl (fun _=>rfl) gr rfl rfl ?_
  refine Zad ?_
  refine ZcM rfl (fun _=>rfl) (Int.natCast_nonneg k) ga rfl rfl ?_
  refine Zad ?_
  refine Zag rfl ((hM).mono ?_)
  rintro _ rfl
  refine Zab rfl rfl ?_
  refine Zag rfl ((hS).mono ?_)
  rintro _ rfl
  refine Zab rfl rfl ?_
  refine Zn1 ?_
  refine Zag rfl (Zk2 (ct:= .s) (l:=v) (new:=[x5]) rfl rfl rfl rfl rfl rfl rfl rfl rfl rfl hvl.symm (fun kk hk=>Zgw rfl (Nat.le_refl 1) hk) hz16 (fun i1 H1 q1 q2 q3 q4=> ?_))
  refine Zab rfl rfl ?_
  refine Zad ?_
  refine Zaq ?_
  refine Zas ?_
  iterate 2 refine Zad ?_
  refine Zaq ?_
  refine⟨k+1,hlt,by show n-(k+1)<n-k;omega, ?_⟩
  show Ent 0 _ H1 _ (hpD n r M less right (tvT (k+1) e))
  rw[hnext]
  have hi1:4≤i1:=by
   rcases q4 with h|h
   ·omega
   ·have h:6≤i1:=h
    omega
  exact ZfZ [0,1,2,3,i1] ⟨q2 0 (by decide) (by show 0<6;decide),rfl,q2 1 (by decide) (by show 1<6;decide),rfl,q2 2 (by decide) (by show 2<6;decide),rfl,q2 3 (by decide) (by show 3<6;decide),rfl,q1,rfl,trivial⟩ (by simp;omega)
   ⟨rfl,ZfL,rfl,ZbQ (by show 0<5;decide),rfl,ZbQ (by show 1<5;decide),rfl,ZfL,rfl,ZbQ (by show 2<5;decide),rfl,ZbQ (by show 3<5;decide),rfl,ZfL,rfl,ZfL,rfl,ZbQ (by show 4<5;decide),rfl,ZbQ (by show 0<5;decide),rfl,ZfL,rfl,ZfL,rfl,ZfL,congrArg (fun x=>some (SV.v (.i .i64) x)) (Zd7 (by omega)),ZfL,trivial⟩
def cnt (a i:Nat):Nat:=if i≤a then i else i-1
def vSC (n r a i:Nat):TM:=[(2,nt (n+1)),(8, .ref 0 0 r none),(11, .ref 1 0 (n+1) none),(14,nt a),(17, .ref 2 0 (cnt a i) none),(18, .ref 3 0 (cnt a i) none),(86, .ref 0 0 r none),(87,nt r),(88,nt i)]
def hpC (n r a:Nat) (M:Mx) (i:Nat):List SM:=[.row (.l .s) (tmT r (n+2) M) true, .row .s (List.replicate (n+1) []) true, .row (.l .s) (tmT (cnt a i) n (Za3 n a M)) true, .row .s (tvT (cnt a i) fun j=>Za3 n a M j n) true]
theorem ZvM (a:Nat):cnt a (a+1)=cnt a a:=by unfold cnt;rw[if_neg (by omega),if_pos (Nat.le_refl a)];rfl
theorem Zlk {a i:Nat} (h:i≠a):cnt a (i+1)=cnt a i+1:=by unfold cnt;by_cases h1:i≤a<;>by_cases h2:i+1≤a<;>simp only[h1,h2,if_true,if_false]<;>omega
theorem ZAV {a i:Nat} (h:i≠a):sk a (cnt a i)=i:=by unfold sk cnt;by_cases h1:i≤a<;>simp only[h1,if_true,if_false]<;>split<;>omega
theorem ZBD {n k:Nat} (h:k<n):sk n k=k:=by unfold sk;rw[if_pos h]
theorem ZBf (n:Nat):sk n n=n+1:=by unfold sk;rw[if_neg (Nat.lt_irrefl n)]
theorem ZzX {a i:Nat}:cnt a i≤i:=by unfold cnt;split<;>omega
set_option maxHeartbeats 32000000 in
theorem ZCd (n r a K:Nat) (M:Mx) (hn:n≤1000) (hr:r≤1000) (ha:a<r) (hK:4*K+1≤40000) (hd: ∀i j,i<r→j<n+2→dz (M i j) K) (hz:M a n≠0):
 LoopOK Tryz.prog Zan 0 ⟨27,0,209⟩ (Zbz Tryz.f27 28) (vSC n r a 0) (hpC n r a M 0)
 (fun x tm hp=>x= .exit 6∧Ent 0 tm hp [(2,nt (n+1)),(8, .ref 0 0 r none),(11, .ref 1 0 (n+1) none),(14,nt a),(17, .ref 2 0 (r-1) none),(18, .ref 3 0 (r-1) none)] (hpC n r a M r)):=by
 refine Zat Zaa rfl (vSC n r a) (hpC n r a M) (fun i=>i≤r) (fun i=>r-i) ?_ 0 (Nat.zero_le _) ZaU
 intro i hi
 cases h1:decide ((i:Int)<(r:Int))with
 |false=>
  have he:i=r:=by have:=of_decide_eq_false h1;omega
  subst he
  have hc:cnt a i=i-1:=by unfold cnt;rw[if_neg (by omega)]
  refine Zas ?_
  refine Zad ?_
  refine Zaq ?_
  refine brF h1 ?_
  exact⟨rfl,Zap ⟨rfl,rfl,rfl,rfl,congrArg (fun x=>some (SV.ref 2 0 x none)) hc,congrArg (fun x=>some (SV.ref 3 0 x none)) hc,trivial⟩⟩
 |true=>
  have hlt:i<r:=by have:=of_decide_eq_true h1;omega
  have ci:=cin hlt
  have ca:=cin ha
  have hat:=Zzv (W:=n+2) (f:=M) hlt
  refine Zas ?_
  refine Zad ?_
  refine Zaq ?_
  refine brT h1 ?_
  refine Zas ?_
  refine Zad ?_
  refine ZhR rfl (fun _=>rfl) ci rfl rfl ?_
  refine Zmj rfl (fun _=>rfl) hat rfl rfl ?_
  iterate 2 refine Zad ?_
  refine Zaq ?_
  cases h2:decide ((i:Int)=(a:Int))with
  |true=>
   have he:i=a:=by have:=of_decide_eq_true h2;omega
   refine Zas ?_
   iterate 3 refine Zad ?_
   refine Zaq ?_
   refine brT h2 ?_
   refine Zwu ?_
   refine Zas ?_
   iterate 2 refine Zad ?_
   refine Zaq ?_
   refine⟨i+1,hlt,by show r-(i+1)<r-i;omega, ?_⟩
   have e:cnt a (i+1)=cnt a i:=by rw[he];exact ZvM a
   refine Ent.eqs (hp0:=hpC n r a M (i+1)) (by rw[hpC,hpC,e]) (Zap ⟨rfl,rfl,rfl,rfl,congrArg (fun x=>some (SV.ref 2 0 x none)) e.symm,congrArg (fun x=>some (SV.ref 3 0 x none)) e.symm,rfl,rfl,congrArg (fun x=>some (SV.v (.i .i64) x)) (Zd7 (by omega)),trivial⟩)
  |false=>
   have hne:i≠a:=by have:=of_decide_eq_false h2;omega
   have hw:=ZyQ n hn
   have hz0:(0:Int)≤IntKind.i64.wrap (((n+1:Nat):Int)-1):=by rw[hw];omega
   have gi:(tvT (n+2) (M i))[(IntKind.i64.wrap (((n+1:Nat):Int)-1)).toNat]? =some (ZaX (M i n)):=by rw[hw];exact ZuQ (by omega)
   have ga:(tvT (n+2) (M a))[(IntKind.i64.wrap (((n+1:Nat):Int)-1)).toNat]? =some (ZaX (M a n)):=by rw[hw];exact ZuQ (by omega)
   have gr:=Zzv (W:=n+2) (f:=M) ha
   have gi1:=ZuQ (W:=n+2) (u:=M i) (j:=n+1) (by omega)
   have ga1:=ZuQ (W:=n+2) (u:=M a) (j:=n+1) (by omega)
   have hD:=ZpB (M i n) (M a n) (k:=K) (by omega) (hd i n hlt (by omega)) (hd a n ha (by omega)) hz
   have dQ:dz (M i n/M a n) (K+K):=Zuc (hd i n hlt (by omega)) (hd a n ha (by omega)) hz
   have hM:=Zlf (M i n/M a n) (M a (n+1)) (k:=2*K) (by omega) (ZbM (by omega) dQ) (ZbM (by omega) (hd a (n+1) ha (by omega)))
   have hS:=ZlL (M i (n+1)) (M i n/M a n*M a (n+1)) (k:=3*K) (by omega) (ZbM (by omega) (hd i (n+1) hlt (by omega))) (ZbM (by omega) (Zj3 dQ (hd a (n+1) ha (by omega))))
   have hsk:=ZAV hne
   have hin:=fun less right=>ZCc n r a (cnt a i) i K M (Za3 n a M (cnt a i)) less right hn ha hlt hK hd hz (fun k hk=>by
    show M (sk a (cnt a i)) (sk n k)-M (sk a (cnt a i)) n/M a n*M a (sk n k)=_
    rw[hsk,ZBD hk])
   have eR:Za3 n a M (cnt a i) n=M i (n+1)-M i n/M a n*M a (n+1):=by
    show M (sk a (cnt a i)) (sk n n)-M (sk a (cnt a i)) n/M a n*M a (sk n n)=_
    rw[hsk,ZBf]
   have hnl:tmT (cnt a (i+1)) n (Za3 n a M)=tmT (cnt a i) n (Za3 n a M)++ [tvT n (Za3 n a M (cnt a i))]:=by rw[Zlk hne,Zpw]
   have hnr:(tvT (cnt a (i+1)) fun j=>Za3 n a M j n)=(tvT (cnt a i) fun j=>Za3 n a M j n)++ [ZaX (M i (n+1)-M i n/M a n*M a (n+1))]:=by rw[Zlk hne,Zia,eR]
   have hll:(tmT (cnt a i) n (Za3 n a M)).length=cnt a i:=ZfJ
   have hrl:(tvT (cnt a i) fun j=>Za3 n a M j n).length=cnt a i:=ZbO
   have hvl:(tvT n (Za3 n a M (cnt a i))).length=n:=ZbO
   have hcn:=Zlk hne
   have hci:=ZzX (a:=a) (i:=i)
   have hin:=hin (tmT (cnt a i) n (Za3 n a M)) (tvT (cnt a i) fun j=>Za3 n a M j n)
   show wp _ _ _ _ _ _ _ [SM.row (.l .s) (tmT r (n+2) M) true, .row .s (List.replicate (n+1) []) true, .row (.l .s) (tmT (cnt a i) n (Za3 n a M)) true, .row .s (tvT (cnt a i) fun j=>Za3 n a M j n) true] _
   obtain⟨less,el⟩: ∃x,tmT (cnt a i) n (Za3 n a M)=x:=⟨_,rfl⟩
   obtain⟨right,er⟩: ∃x,(tvT (cnt a i) fun j=>Za3 n a M j n)=x:=⟨_,rfl⟩
   obtain⟨v,ev⟩: ∃x,tvT n (Za3 n a M (cnt a i))=x:=⟨_,rfl⟩
   obtain⟨x1,ex1⟩: ∃x,ZaX (M i n)=x:=⟨_,rfl⟩
   obtain⟨x2,ex2⟩: ∃x,ZaX (M a n)=x:=⟨_,rfl⟩
   obtain⟨x3,ex3⟩: ∃x,ZaX (M i n/M a n)=x:=⟨_,rfl⟩
   obtain⟨x4,ex4⟩: ∃x,ZaX (M a (n+1))=x:=⟨_,rfl⟩
   obtain⟨x5,ex5⟩: ∃x,ZaX (M i n/M a n*M a (n+1))=x:=⟨_,rfl⟩
   obtain⟨x6,ex6⟩: ∃x,ZaX (M i (n+1))=x:=⟨_,rfl⟩
   obtain⟨x7,ex7⟩: ∃x,ZaX (M i (n+1)-M i n/M a n*M a (n+1))=x:=⟨_,rfl⟩
   obtain⟨row,erow⟩: ∃x,tvT (n+2) (M i)=x:=⟨_,rfl⟩
   obtain⟨rowa,erowa⟩: ∃x,tvT (n+2) (M a)=x:=⟨_,rfl⟩
   rw[el,er,ev,ex3,erow]at hin
   rw[el,er,erow]
   rw[ex1]at gi
   rw[ex2]at ga
   rw[ex4]at ga1
   rw[ex6]at gi1
   rw[ex1,ex2,ex3]at hD
   rw[ex3,ex4,ex5]at hM
   rw[ex6,ex5,ex7]at hS
   rw[erow]at gi gi1
   rw[erowa]at ga ga1 gr
   rw[el,ev]at hnl
   rw[er,ex7]at hnr
   rw[el]at hll
   rw[er]at hrl
   rw[ev]at hvl
   obtain⟨c,ec⟩: ∃x,cnt a i=x:=⟨_,rfl⟩
   rw[ec]at hin hll hrl hcn hci
   refine Zas ?_
   iterate 3 refine Zad ?_
   refine Zaq ?_
   refine brF h2 ?_
   refine Zas ?_
   iterate 3 refine Zad ?_
   refine ZcM rfl (fun _=>rfl) hz0 gi rfl rfl ?_
   iterate 3 refine Zad ?_
   refine ZhR rfl (fun _=>rfl) ca rfl rfl ?_
   refine Zmj rfl (fun _=>rfl) gr rfl rfl ?_
   iterate 2 refine Zad ?_
   refine ZcM rfl (fun _=>rfl) hz0 ga rfl rfl ?_
   refine Zad ?_
   refine Zag rfl ((hD).mono ?_)
   rintro _ rfl
   refine Zab rfl rfl ?_
   refine Zad ?_
   refine Zaq ?_
   refine Zas ?_
   refine Zad ?_
   refine Zaq ?_
   refine Zas ?_
   iterate 3 refine Zad ?_
   refine Zaq ?_
   refine(hin.ent ?_).through ?_
   ·refine Ent.trans (tm1:=[(2,nt (n+1)),(8, .ref 0 0 r none),(11, .ref 1 0 (n+1) none),(14,nt a),(17, .ref 2 0 c none),(18, .ref 3 0 c none),(20, .v (.l .s) row),(21, .v .s x3),(22, .nils),(86, .ref 0 0 r none),(87,nt r),(88,nt i),(111,nt n),(112,nt 0)]) (hp1:=[.row (.l .s) (tmT r (n+2) M) true, .row .s (List.replicate (n+1) []) true, .row (.l .s) less true, .row .s right true]) (Zap ⟨rfl,rfl,rfl,rfl,congrArg (fun x=>some (SV.ref 2 0 x none)) ec,congrArg (fun x=>some (SV.ref 3 0 x none)) ec,rfl,rfl,rfl,rfl,rfl,rfl,congrArg (fun x=>some (SV.v (.i .i64) x)) hw,rfl,trivial⟩) ?_
    refine Zk0 (k:=22) (ct:= .s) (Nat.zero_le _) rfl (fun i V hb h=> ?_) rfl
    simp only[vSD,Zbj,hb]at h⊢
    exact h
   rintro _ tm hp' ⟨rfl,hE⟩
   refine⟨_,_,hE, ?_⟩
   show wp _ _ _ _ _ _ _ [SM.row (.l .s) (tmT r (n+2) M) true, .row .s (List.replicate (n+1) []) true, .row (.l .s) less true, .row .s right true, .row .s v true] _
   have zC:(c+1)*24≤140737488355328:=by omega
   have zB:(c+ [x7].length)*16≤140737488355328:=by show(c+1)*16≤_;omega
   have n0:(0:Nat)≠2∧(1:Nat)≠2∧(3:Nat)≠2:=by decide
   have m0:(0:Nat) ∉ [5,4]∧(1:Nat) ∉ [5,4]∧(3:Nat) ∉ [5,4]∧(2:Nat) ∉ [5,4]:=by decide
   have l6:(0:Nat)<6∧(1:Nat)<6∧(3:Nat)<6:=by decide
   refine ZAX ?_
   refine Zbw rfl rfl (opv (fun _=>rfl) rfl rfl ?_)
   refine Zbw rfl rfl (opv (fun _=>rfl) rfl rfl ?_)
   refine Zbw rfl rfl (opm (fun _=>rfl) rfl rfl ?_)
   refine Zb3 rfl rfl rfl rfl rfl ?_
   refine Zb3 rfl rfl rfl rfl rfl ?_
   refine Zb3 rfl rfl rfl rfl rfl ?_
   refine ZmY rfl rfl rfl (fun _=>rfl) (Int.natCast_nonneg (n+1:Nat)) gi1 rfl rfl ?_
   refine Zms rfl rfl rfl (fun _=>rfl) rfl rfl ?_
   refine Zb3 rfl rfl rfl rfl rfl ?_
   refine Zb3 rfl rfl rfl rfl rfl ?_
   refine Zb3 rfl rfl rfl rfl rfl ?_
   refine ZAj rfl rfl rfl (fun _=>rfl) ca rfl rfl ?_
   refine ZAD rfl rfl rfl (fun _=>rfl) gr rfl rfl ?_
   refine Zb3 rfl rfl rfl rfl rfl ?_
   refine ZmY rfl rfl rfl (fun _=>rfl) (Int.natCast_nonneg (n+1:Nat)) ga1 rfl rfl ?_
   refine Zms rfl rfl rfl (fun _=>rfl) rfl rfl ?_
   refine ZAo rfl rfl rfl rfl rfl rfl rfl rfl (Zsg (ct:= .l .s) (l:=less) (x:=v) rfl rfl rfl rfl rfl rfl rfl rfl rfl (fun kk hk=>Ztx rfl rfl hvl hk) (by rw[Zd8 rfl rfl];exact m0.2.2.2) rfl hll.symm zC (fun i1 H1 q1 q2 q3=> ?_))
   refine Zbx rfl rfl ?_
   refine Zbw rfl rfl ((hM).mono ?_)
   rintro _ rfl
   refine Zbx rfl rfl ?_
   refine Zbw rfl rfl ((hS).mono ?_)
   rintro _ rfl
   refine Zbx rfl rfl ?_
   refine Zbw rfl rfl (opm (fun _=>rfl) rfl rfl ?_)
   have k3:=Zcn (y:=SM.row .s [x7] true) (q2 3 n0.2.2 (by rw[Zd8 rfl rfl];exact m0.2.2.1) l6.2.2)
   have k0:=Zcn (y:=SM.row .s [x7] true) (q2 0 n0.1 (by rw[Zd8 rfl rfl];exact m0.1) l6.1)
   refine ZAo rfl rfl rfl rfl rfl rfl rfl (ZAn k3 k0) (Zk2 (ct:= .s) (l:=right) (new:=[x7]) rfl rfl rfl rfl rfl rfl rfl rfl rfl (Zcn (q2 3 n0.2.2 (by rw[Zd8 rfl rfl];exact m0.2.2.1) l6.2.2)) hrl.symm (fun kk hk=>Zgw ZeI (Nat.le_refl 1) hk) zB (fun i2 H2 g1 g2 g3 g4=> ?_))
   refine Zbx rfl rfl ?_
   refine Zbw rfl rfl (opv (fun _=>rfl) rfl rfl ?_)
   refine Zbw rfl rfl (opv (fun _=>rfl) rfl rfl ?_)
   refine ZAI ?_
   refine Zas ?_
   iterate 2 refine Zad ?_
   refine Zaq ?_
   refine⟨i+1,hlt,by show r-(i+1)<r-i;omega, ?_⟩
   show Ent 0 _ H2 _ [SM.row (.l .s) (tmT r (n+2) M) true, .row .s (List.replicate (n+1) []) true, .row (.l .s) (tmT (cnt a (i+1)) n (Za3 n a M)) true, .row .s (tvT (cnt a (i+1)) fun j=>Za3 n a M j n) true]
   rw[hnl,hnr]
   have hl1:=Zug q1
   have h6:6≤i1:=q3
   have hlen:(H1++ [SM.row .s [x7] true]).length=H1.length+1:=by rw[List.length_append];rfl
   have b2:i2=3∨H1.length+1≤i2:=by rw[←hlen];exact g4
   have e0:nth H2 0=some (.row (.l .s) (tmT r (n+2) M) true):=(g2 0 (by decide) (show 0<(H1++ [SM.row .s [x7] true]).length by rw[hlen];omega)).trans (Zcn (q2 0 n0.1 (by rw[Zd8 rfl rfl];exact m0.1) l6.1))
   have e1:nth H2 1=some (.row .s (List.replicate (n+1) []) true):=(g2 1 (by decide) (show 1<(H1++ [SM.row .s [x7] true]).length by rw[hlen];omega)).trans (Zcn (q2 1 n0.2.1 (by rw[Zd8 rfl rfl];exact m0.2.1) l6.2.1))
   have e2:nth H2 i1=some (.row (.l .s) (less++ [v]) true):=(g2 i1 (by omega) (show i1<(H1++ [SM.row .s [x7] true]).length by rw[hlen];omega)).trans (Zcn q1)
   exact ZfZ [0,1,i1,i2] ⟨e0,rfl,e1,rfl,e2,rfl,g1,rfl,trivial⟩ (by simp;omega)
    ⟨rfl,ZfL,rfl,ZbQ (by show 0<4;decide),rfl,ZbQ (by show 1<4;decide),rfl,ZfL,congrArg (fun x=>some (SV.ref i1 0 x none)) hcn.symm,ZbQ (by show 2<4;decide),congrArg (fun x=>some (SV.ref i2 0 x none)) hcn.symm,ZbQ (by show 3<4;decide),rfl,ZbQ (by show 0<4;decide),rfl,ZfL,congrArg (fun x=>some (SV.v (.i .i64) x)) (Zd7 (by omega)),ZfL,trivial⟩
end Go.Proofs.YtdnodlkdndfplaaGreatDoor
