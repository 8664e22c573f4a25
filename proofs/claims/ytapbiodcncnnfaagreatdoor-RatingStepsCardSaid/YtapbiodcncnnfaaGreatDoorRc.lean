/- A watch of ratings: what it tells. -/
import Derived.Test.YtapbiodcncnnfaaGreatDoorQA
import Derived.Laws.StructEq
set_option linter.all false
set_option maxHeartbeats 32000000
set_option maxRecDepth 1000000
namespace Go.Proofs.YtapbiodcncnnfaaGreatDoor
open Go.Am Go.Tx Ne Dv Go.Lib
theorem ZmP {n:Nat} (h:n<1000000000):(decDigits n).length≤2000:=XaM ((Zbt (k:=9) (by decide)).2 (XaJ h (by decide))) (by decide)
theorem Zn6 {n:Int} (h:n.natAbs<1000000000):Zkj (n:Rat)=true:=Zdw.2 ⟨ZmP h,ZmP (by decide:1<1000000000)⟩
theorem ZfA {α:Type} {l:List α} {i:Nat} (h:i<l.length): ∃x,l[i]? =some x∧l[(i:Int).toNat]? =some x:=⟨l[i],Xac h,by rw[Xad];exact Xac h⟩
def Zz9 (b:Br):Prop:=0≤lim b∧lim b≤100000∧0≤sho b∧sho b≤100000∧0≤hol b∧hol b≤200000
theorem ZqG {n:Net} (J:Fine n) {b:Br} (R:b∈n.brs):Zz9 b:=by
 have h:=(Zy4 J R).2.2
 simp only[ZhW,Bool.not_eq_false',Xag]at h
 obtain⟨⟨⟨_,j⟩,C⟩,I⟩:=h
 have j:=ZrE j
 have C:=ZrE C
 have I:=ZrE I
 unfold Zz9 lim sho hol
 omega
theorem ZrD (q:Rat) (j:szQ q 208) (n:Int) (C:0≤n) (I:n≤100000):PureOK Tryz.prog Zao 28 [.v (.i .i64) n] (fun V=>V=QR (n:Rat))∧PureOK Tryz.prog Zao 27 [QR q,QR (n:Rat)] (fun V=>V= .v (.i .i64) (Zqk q (n:Rat))):=
 ⟨Zsv n (by omega) (by omega),Zzc q n (by decide) j (Zma (Zn6 (by omega)))⟩
abbrev wCT:CT:= .p (.l Zhx) (.p (.l qct) (.p (.l IC) (.p (.l .b) IC)))
def fQ (S:Nat→St) (N:Nat):List qct.D:=rg N fun j=>Zn0 (S j).1
def fA (S:Nat→St) (N:Nat):List Int:=rg N fun j=>(S j).2.1
def fO (S:Nat→St) (N:Nat):List Bool:=rg N fun j=>(S j).2.2
def wB (n:Net) (S:Nat→St) (t:Int):wCT.D:=(n.brs,(fQ S n.brs.length,(fA S n.brs.length,(fO S n.brs.length,t))))
theorem ZyD (n:Net) (S:Nat→St) (t:Int):PureOK Tryz.prog Zao 11 [.box wCT (wB n S t) 0] (fun V=>V= .v IC t):=by
 refine Zai Zag Tryz.func11 ?_
 rfl
def zV (n:Net) (S:Nat→St) (t:Int) (i:Nat):TM:=[(0, .box wCT (wB n S t) 0),(3, .ref 0 0 (ovN n S i).length none),(9, .v (.l Zhx) n.brs),(10,nt n.brs.length),(11,nt i)]
theorem Zv0 (n:Net) (hN:n.brs.length≤24) (S:Nat→St) (t:Int):ImpOK Tryz.prog Zao 13 [.box wCT (wB n S t) 0] (fun V hp sf=>V= .ref 0 0 (ovN n S n.brs.length).length none∧hp=[.row .s (ovN n S n.brs.length) true]∧sf=true):=by
 refine ZbR (fn:=Tryz.f13) (code:=Zbn Tryz.f13) Zag (by kernel_rfl) Tryz.func13 (by kernel_rfl) (Xal (by kernel_rfl)) ?_
 refine Zae ?_
 refine Zac ?_
 refine Zaf ?_
 refine Zae ?_
 refine Zac ?_
 refine Zaf ?_
 refine Zae ?_
 iterate 6 refine Zac ?_
 refine Zaf ?_
 refine Zaw Zag rfl (zV n S t) (fun i=> [.row .s (ovN n S i) true]) (fun i=>i≤n.brs.length) (fun i=>n.brs.length-i) ?_ 0 (Xao _) ?_
 case refine_2=>
  refine(Zg6 (k:=3) (ct:= .s) (r:=[(0, .box wCT (wB n S t) 0),(9, .v (.l Zhx) n.brs),(10,nt n.brs.length),(11,nt 0)]) (Xao _) rfl ⟨rfl,rfl,rfl,rfl,trivial⟩).trans ?_
  exact Zaq ⟨rfl,rfl,rfl,rfl,rfl,trivial⟩
 intro i hi
 cases I:decide ((i:Int)<(n.brs.length:Int))with
 |false=>
  have e:i=n.brs.length:=by have:=of_decide_eq_false I;omega
  subst e
  refine Zae ?_
  refine Zac ?_
  refine Zaf ?_
  refine brF I ?_
  show wp _ _ _ _ _ _ _ _ _
  refine Zae ?_
  iterate 2 refine Zac ?_
  refine Zaf ?_
  refine⟨.ref 0 0 (ovN n S n.brs.length).length none,[.row .s (ovN n S n.brs.length) true], ?_,rfl,rfl,rfl,rfl⟩
  exact Zas rfl rfl ⟨⟨rfl,rfl,rfl⟩,trivial⟩ ⟨⟨rfl,id⟩,trivial⟩
 |true=>
  have j:i<n.brs.length:=by have:=of_decide_eq_true I;omega
  obtain⟨x,J,gx⟩:=ZfA j
  have C:=ZpA n S i
  rw[ZiK J]at C
  have aa:=Zna n S i
  have go:(fO S n.brs.length)[(i:Int).toNat]? =some (S i).2.2:=by rw[Xad];exact Zh0 j
  have R:=congrArg (fun x=>some (SV.v (.i .i64) x)) (Zca (k:=i) (by omega))
  refine Zae ?_
  refine Zac ?_
  refine Zaf ?_
  refine brT I ?_
  refine Zae ?_
  refine Zac ?_
  refine Zbb rfl (fun _=>rfl) (Xaj i) gx rfl rfl ?_
  refine Zac ?_
  refine ZbB ?_
  refine Zac ?_
  refine Zad rfl (ZaP rfl rfl rfl rfl rfl rfl rfl rfl ?_)
  refine ZaC rfl ?_
  refine Zaf ?_
  cases U:(S i).2.2 with
  |false=>
   rw[U]at C go
   rw[cond_false,XaF]at C
   refine Zae ?_
   iterate 5 refine Zac ?_
   refine Zbb rfl (fun _=>rfl) (Xaj i) go rfl rfl ?_
   refine Zac ?_
   refine Zaf ?_
   refine Xaa (fun h=>by cases h) (fun _=> ?_)
   refine Zae ?_
   iterate 2 refine Zac ?_
   refine Zaf ?_
   refine⟨i+1,j,by show n.brs.length-(i+1)<n.brs.length-i;omega, ?_⟩
   show Ent _ _ _ (zV n S t (i+1)) [.row .s (ovN n S (i+1)) true]
   unfold zV
   rw[C]
   exact Za6 [0] rfl ⟨rfl,trivial⟩ ⟨rfl,rfl,rfl,rfl,R,trivial⟩
  |true=>
   rw[U]at C go
   rw[cond_true]at C
   have hz:((ovN n S i).length+1)*16≤140737488355328:=by omega
   refine Zae ?_
   iterate 5 refine Zac ?_
   refine Zbb rfl (fun _=>rfl) (Xaj i) go rfl rfl ?_
   refine Zac ?_
   refine Zaf ?_
   refine Xaa (fun _=> ?_) (fun h=>by cases h)
   refine Zae ?_
   iterate 2 refine Zac ?_
   refine Zap rfl (fun _=>rfl) rfl rfl rfl ?_
   refine ZbB ?_
   refine Zad rfl (Ze1 rfl rfl rfl rfl rfl rfl rfl rfl rfl rfl rfl rfl hz ?_)
   refine Zaa rfl rfl ?_
   refine Zac ?_
   refine Zaf ?_
   refine Zae ?_
   iterate 2 refine Zac ?_
   refine Zaf ?_
   refine⟨i+1,j,by show n.brs.length-(i+1)<n.brs.length-i;omega, ?_⟩
   show Ent _ _ _ (zV n S t (i+1)) [.row .s (ovN n S (i+1)) true]
   unfold zV
   rw[C]
   have er:some (SV.ref 3 0 ((ovN n S i).length+1) none)=some (SV.ref 3 0 (ovN n S i++ [x.1]).length none):=by rw[Xaw];rfl
   exact Za6 [3] rfl ⟨rfl,trivial⟩ ⟨rfl,er,rfl,rfl,R,trivial⟩
abbrev ZqY:CT:= .p .s IC
def lfN (n:Net) (S:Nat→St) (i:Nat):List ZqY.D:=rg i fun j=>((brA n j).1,Zil (brA n j) (S j))
theorem ZuU (n:Net) (S:Nat→St) (i:Nat):lfN n S (i+1)=lfN n S i++ [((brA n i).1,Zil (brA n i) (S i))]:=by rw[lfN,rg,List.range_succ,XbM];rfl
def zL (n:Net) (S:Nat→St) (t:Int) (i:Nat):TM:=[(0, .box wCT (wB n S t) 0),(3, .ref 0 0 i none),(10, .v (.l Zhx) n.brs),(11,nt n.brs.length),(12,nt i)]
theorem Zzs (n:Net) (hf:Fine n) (S:Nat→St) (t:Int) (hS: ∀j,j<n.brs.length→szQ (S j).1 208∧0≤(S j).2.1∧(S j).2.1≤200000):ImpOK Tryz.prog Zao 10 [.box wCT (wB n S t) 0] (fun V hp sf=>V= .ref 0 0 n.brs.length none∧hp=[.row ZqY (lfN n S n.brs.length) true]∧sf=true):=by
 refine ZbR (fn:=Tryz.f10) (code:=Zbn Tryz.f10) Zag (by kernel_rfl) Tryz.func10 (by kernel_rfl) (Xal (by kernel_rfl)) ?_
 obtain⟨_,_,hN,_⟩:=Zev hf
 refine Zae ?_
 refine Zac ?_
 refine Zaf ?_
 refine Zae ?_
 refine Zac ?_
 refine Zaf ?_
 refine Zae ?_
 iterate 6 refine Zac ?_
 refine Zaf ?_
 refine Zaw Zag rfl (zL n S t) (fun i=> [.row ZqY (lfN n S i) true]) (fun i=>i≤n.brs.length) (fun i=>n.brs.length-i) ?_ 0 (Xao _) ?_
 case refine_2=>
  refine(Zg6 (k:=3) (ct:=ZqY) (r:=[(0, .box wCT (wB n S t) 0),(10, .v (.l Zhx) n.brs),(11,nt n.brs.length),(12,nt 0)]) (Xao _) rfl ⟨rfl,rfl,rfl,rfl,trivial⟩).trans ?_
  exact Zaq ⟨rfl,rfl,rfl,rfl,rfl,trivial⟩
 intro i hi
 cases h1:decide ((i:Int)<(n.brs.length:Int))with
 |false=>
  have e:i=n.brs.length:=by have:=of_decide_eq_false h1;omega
  subst e
  refine Zae ?_
  refine Zac ?_
  refine Zaf ?_
  refine brF h1 ?_
  show wp _ _ _ _ _ _ _ _ _
  refine Zae ?_
  iterate 2 refine Zac ?_
  refine Zaf ?_
  refine⟨.ref 0 0 n.brs.length none,[.row ZqY (lfN n S n.brs.length) true], ?_,rfl,rfl,rfl,rfl⟩
  exact Zas rfl rfl ⟨⟨rfl,rfl,rfl⟩,trivial⟩ ⟨⟨rfl,id⟩,trivial⟩
 |true=>
  have C:i<n.brs.length:=by have:=of_decide_eq_true h1;omega
  obtain⟨x,J,gx⟩:=ZfA C
  obtain⟨b1,b2,b3,b4,b5,b6⟩:=ZqG hf (XaI J)
  obtain⟨aa,ab,ad⟩:=hS i C
  have I:=ZuU n S i
  rw[ZiK J]at I
  have ln:(lfN n S i).length=i:=ZdC
  have go:(fO S n.brs.length)[(i:Int).toNat]? =some (S i).2.2:=by rw[Xad];exact Zh0 C
  have gq:(fQ S n.brs.length)[(i:Int).toNat]? =some (Zn0 (S i).1):=by rw[Xad];exact Zh0 C
  have ga:(fA S n.brs.length)[(i:Int).toNat]? =some (S i).2.1:=by rw[Xad];exact Zh0 C
  have w1:=congrArg (fun x=>some (SV.v (.i .i64) x)) (Zca (k:=i) (by omega))
  obtain⟨hW,hC⟩:=ZrD (S i).1 aa (lim x) b1 b2
  have hz:(i+1)*24≤140737488355328:=by omega
  have er:some (SV.ref 4 0 (i+1) none)=some (SV.ref 4 0 (i+1) none):=rfl
  refine Zae ?_
  refine Zac ?_
  refine Zaf ?_
  refine brT h1 ?_
  refine Zae ?_
  refine Zac ?_
  refine Zbb rfl (fun _=>rfl) (Xaj i) gx rfl rfl ?_
  refine Zac ?_
  refine ZbB ?_
  refine Zac ?_
  refine Zad rfl (ZaP rfl rfl rfl rfl rfl rfl rfl rfl ?_)
  refine ZaC rfl ?_
  refine Zaf ?_
  refine Zae ?_
  refine Zac ?_
  refine Zap rfl (fun _=>rfl) rfl rfl rfl ?_
  refine Zac ?_
  refine ZbB ?_
  refine Zad rfl (ZaP rfl rfl rfl rfl rfl rfl rfl rfl ?_)
  refine ZaC rfl ?_
  refine Zaf ?_
  cases R:(S i).2.2 with
  |true=>
   have U:Zil x (S i)=0:=by rw[Zil,R];rfl
   rw[U]at I
   rw[R]at go
   refine Zae ?_
   iterate 5 refine Zac ?_
   refine Zbb rfl (fun _=>rfl) (Xaj i) go rfl rfl ?_
   iterate 2 refine Zac ?_
   refine Zaf ?_
   refine Xaa (fun _=> ?_) (fun h=>by cases h)
   refine Zae ?_
   refine Zac ?_
   refine Zad rfl (ZaP rfl rfl rfl rfl rfl rfl rfl rfl ?_)
   refine ZaC rfl ?_
   refine Zaf ?_
   refine Zae ?_
   refine Zac ?_
   refine Zap rfl (fun _=>rfl) rfl rfl rfl ?_
   refine ZbB ?_
   refine Zad rfl (Ze1 rfl rfl rfl rfl rfl rfl rfl rfl rfl rfl rfl ln.symm hz ?_)
   refine Zaa rfl rfl ?_
   refine Zac ?_
   refine Zaf ?_
   refine Zae ?_
   iterate 2 refine Zac ?_
   refine Zaf ?_
   refine⟨i+1,C,by show n.brs.length-(i+1)<n.brs.length-i;omega, ?_⟩
   show Ent _ _ _ (zL n S t (i+1)) [.row ZqY (lfN n S (i+1)) true]
   rw[I]
   exact Za6 [4] rfl ⟨rfl,trivial⟩ ⟨rfl,rfl,rfl,rfl,w1,trivial⟩
  |false=>
   rw[R]at go
   refine Zae ?_
   iterate 5 refine Zac ?_
   refine Zbb rfl (fun _=>rfl) (Xaj i) go rfl rfl ?_
   iterate 2 refine Zac ?_
   refine Zaf ?_
   refine Xaa (fun h=>by cases h) (fun _=> ?_)
   cases h3:gtQ (S i).1 (lim x)with
   |false=>
    have U:Zil x (S i)= -1:=by rw[Zil,R,h3];rfl
    rw[U]at I
    refine Zae ?_
    iterate 5 refine Zac ?_
    refine Zbb rfl (fun _=>rfl) (Xaj i) gq rfl rfl ?_
    iterate 2 refine Zac ?_
    refine Zap rfl (fun _=>rfl) rfl rfl rfl ?_
    refine Zad rfl ((hW).mono ?_)
    rintro _ rfl
    refine Zaa rfl rfl ?_
    refine Zad rfl ((hC).mono ?_)
    rintro _ rfl
    refine Zaa rfl rfl ?_
    iterate 2 refine Zac ?_
    refine Zaf ?_
    refine brF h3 ?_
    refine Zae ?_
    refine Zac ?_
    refine Zap rfl (fun _=>rfl) rfl rfl rfl ?_
    refine ZbB ?_
    refine Zad rfl (Ze1 rfl rfl rfl rfl rfl rfl rfl rfl rfl rfl rfl ln.symm hz ?_)
    refine Zaa rfl rfl ?_
    refine Zac ?_
    refine Zaf ?_
    refine Zae ?_
    iterate 2 refine Zac ?_
    refine Zaf ?_
    refine⟨i+1,C,by show n.brs.length-(i+1)<n.brs.length-i;omega, ?_⟩
    show Ent _ _ _ (zL n S t (i+1)) [.row ZqY (lfN n S (i+1)) true]
    rw[I]
    exact Za6 [4] rfl ⟨rfl,trivial⟩ ⟨rfl,rfl,rfl,rfl,w1,trivial⟩
   |true=>
    have U:Zil x (S i)=hol x-(S i).2.1:=by rw[Zil,R,h3];rfl
    have hw:IntKind.i64.wrap (hol x-(S i).2.1)=hol x-(S i).2.1:=Zan (by omega) (by omega)
    have ew:some (SM.row ZqY (lfN n S i++ [(x.1,IntKind.i64.wrap (hol x-(S i).2.1))]) true)=some (SM.row ZqY (lfN n S i++ [(x.1,Zil x (S i))]) true):=by rw[U,hw]
    refine Zae ?_
    iterate 5 refine Zac ?_
    refine Zbb rfl (fun _=>rfl) (Xaj i) gq rfl rfl ?_
    iterate 2 refine Zac ?_
    refine Zap rfl (fun _=>rfl) rfl rfl rfl ?_
    refine Zad rfl ((hW).mono ?_)
    rintro _ rfl
    refine Zaa rfl rfl ?_
    refine Zad rfl ((hC).mono ?_)
    rintro _ rfl
    refine Zaa rfl rfl ?_
    iterate 2 refine Zac ?_
    refine Zaf ?_
    refine brT h3 ?_
    refine Zae ?_
    refine Zac ?_
    refine Zap rfl (fun _=>rfl) rfl rfl rfl ?_
    iterate 5 refine Zac ?_
    refine Zbb rfl (fun _=>rfl) (Xaj i) ga rfl rfl ?_
    iterate 3 refine Zac ?_
    refine Zad rfl (ZaP rfl rfl rfl rfl rfl rfl rfl rfl ?_)
    refine ZaC rfl ?_
    refine Zaf ?_
    refine Zae ?_
    refine Zac ?_
    refine Zap rfl (fun _=>rfl) rfl rfl rfl ?_
    refine ZbB ?_
    refine Zad rfl (Ze1 rfl rfl rfl rfl rfl rfl rfl rfl rfl rfl rfl ln.symm hz ?_)
    refine Zaa rfl rfl ?_
    refine Zac ?_
    refine Zaf ?_
    refine Zae ?_
    iterate 2 refine Zac ?_
    refine Zaf ?_
    refine⟨i+1,C,by show n.brs.length-(i+1)<n.brs.length-i;omega, ?_⟩
    show Ent _ _ _ (zL n S t (i+1)) [.row ZqY (lfN n S (i+1)) true]
    rw[I]
    exact Za6 [4] rfl ⟨ew,trivial⟩ ⟨rfl,rfl,rfl,rfl,w1,trivial⟩
def hpW (n:Net) (S:Nat→St) (t:Int) (gl:List (List Txt)) (tl:List Int):List SM:=[.cell (Zdo n) true, .cell (wS 2 3 4 5 n.brs.length t) true, .row Zhx n.brs true, .row qct (fQ S n.brs.length) true, .row IC (fA S n.brs.length) true, .row .b (fO S n.brs.length) true, .row (.l .s) gl true, .row IC tl true]
def wX (n:Net) (S:Nat→St) (t:Int):wCT.D:=(sub n.brs 0 n.brs.length,(sub (fQ S n.brs.length) 0 n.brs.length,(sub (fA S n.brs.length) 0 n.brs.length,(sub (fO S n.brs.length) 0 n.brs.length,t))))
theorem ZAR (n:Net) (S:Nat→St) (t:Int):wX n S t=wB n S t:=by
 rw[wX,ZcE rfl,ZcE (show(fQ S n.brs.length).length=_ from ZdC),ZcE (show(fA S n.brs.length).length=_ from ZdC),ZcE (show(fO S n.brs.length).length=_ from ZdC)]
 rfl
theorem Zzd {n:Net} {S:Nat→St} {t:Int} {gl:List (List Txt)} {tl:List Int} {ex:List SM} {k:SV→Prop} (C:k (.box wCT (wB n S t) 0)):Zjq (hpW n S t gl tl++ex) 40 (.ptr 1 0 0) k:=by
 rw[←ZAR]at C
 have I:0+n.brs.length≤n.brs.length:=by omega
 have j: ∀ {l:Nat},l=n.brs.length→0+n.brs.length≤l:=fun h=>by omega
 exact⟨rfl,I,j ZdC,j ZdC,j ZdC,wCT,wX n S t,rfl,C⟩
def Zci (N:Nat) (t:Int) (j:List Txt) (s:Int):Int:=
 bif !decide (ZlF j=0)then ZlF j else bif !decide ((j.length:Int)=(N:Int))then 3 else bif decide (s<1)||decide (200000-t<s)then 12 else 0
def ZhV (n:Net) (x:Go2) (S:Nat→St) (i:Nat):Nat→St:=fun j=>if j<i then Ze6 n x S j else S j
theorem Zsh {n:Net} {x:Go2} {S:Nat→St} {i:Nat}:ZhV n x S (i+1) i=Ze6 n x S i:=if_pos (Nat.lt_succ_self i)
theorem Ztd {n:Net} {x:Go2} {S:Nat→St} {i:Nat}:ZhV n x S i i=S i:=if_neg (Nat.lt_irrefl i)
theorem Zru {n:Net} {x:Go2} {S:Nat→St} {i j:Nat} (h:j≠i):ZhV n x S i j=ZhV n x S (i+1) j:=by
 unfold ZhV
 by_cases C:j<i
 ·rw[if_pos C,if_pos (by omega)]
 ·rw[if_neg C,if_neg (by omega)]
theorem Zhg {α:Type} {n:Net} {x:Go2} {S:Nat→St} {i N:Nat} {f:St→α} {v:α} (C:v=f (Ze6 n x S i)):(rg N fun j=>f (ZhV n x S i j)).set (0+(i:Int).toNat) v=rg N fun j=>f (ZhV n x S (i+1) j):=by
 rw[Xaq,Xad]
 exact ZvU (by rw[Zsh,C]) fun j I=>by rw[Zru I]
theorem ZuW {α:Type} {n:Net} {x:Go2} {S:Nat→St} {i N:Nat} {f:St→α} (C:f (S i)=f (Ze6 n x S i)):(rg N fun j=>f (ZhV n x S i j))=rg N fun j=>f (ZhV n x S (i+1) j):=
 Zwb fun j _=>by
  by_cases h:j=i
  ·rw[h,Ztd,Zsh,C]
  ·rw[Zru h]
theorem ZtR {α:Type} {n:Net} {x:Go2} {S:Nat→St} {i N:Nat} {f:St→α} (hi:i<N):(rg N fun j=>f (ZhV n x S i j))[0+(i:Int).toNat]? =some (f (S i)):=by
 rw[Xaq,Xad,Zh0 hi,Ztd]
theorem ZrA {q:Rat} (h:Zkj q=true):szQ (Zjw q) 208:=by
 rw[Zjw]
 cases decide (q.num.sign<0)with
 |false=>exact Zma h
 |true=>exact ZzW (Zma h)
theorem Ztt: ∀ {l:List Txt},ZeK l=0→ ∃ps:List Rat,l=ps.map Zc0∧ ∀p∈ps,Zkj p=true
 | [],_=>⟨[],rfl,fun _ h=>absurd h XaU⟩
 |a::l,h=>by
  have C:=Zj3 h
  obtain⟨q,rfl,I⟩:=ZnI (C a Xah)
  have J:ZeK l=0:=by
   rw[ZeK,C _ Xah]at h
   exact h
  obtain⟨ps,rfl,j⟩:=Ztt J
  exact⟨q::ps,rfl,fun p hp=>(Xav.1 hp).elim (fun e=>e▸I) (j p)⟩
def zW (n:Net) (ps:List Rat) (s:Int) (i:Nat):TM:=[(0, .ptr 1 0 0),(1, .v (.l .s) (ps.map Zc0)),(2, .v IC s),(49, .ref 2 0 n.brs.length none),(50,nt n.brs.length),(51,nt i)]
theorem Zrl (n:Net) (hf:Fine n) (S:Nat→St) (t:Int) (gl:List (List Txt)) (tl:List Int) (ps:List Rat) (hp: ∀p∈ps,Zkj p=true) (hl:ps.length=n.brs.length) (s:Int) (hs:1≤s) (ai:s≤200000) (hS: ∀j,j<n.brs.length→0≤(S j).2.1∧(S j).2.1≤200000) (base:Nat):
 LoopOK Tryz.prog Zao 8 ⟨7,base,124⟩ (Za4 Tryz.f7 10) (zW n ps s 0) (hpW n S t gl tl)
 (fun e tm hp=>e= .exit 1∧Ent 8 tm hp [(0, .ptr 1 0 0)] (hpW n (Ze6 n (ps,s) S) t gl tl)):=by
 obtain⟨_,_,hN,_⟩:=Zev hf
 have e0:S=ZhV n (ps,s) S 0:=rfl
 refine Zaw Zag rfl (zW n ps s) (fun i=>hpW n (ZhV n (ps,s) S i) t gl tl) (fun i=>i≤n.brs.length) (fun i=>n.brs.length-i) ?_ 0 (Xao _) (by rw[←e0];exact ZaJ)
 intro i hi
 cases h1:decide ((i:Int)<(n.brs.length:Int))with
 |false=>
  have e:i=n.brs.length:=by have:=of_decide_eq_false h1;omega
  subst e
  refine Zae ?_
  refine Zac ?_
  refine Zaf ?_
  refine brF h1 ?_
  refine⟨rfl, ?_⟩
  have ex: ∀ {α:Type} (f:St→α),(rg n.brs.length fun j=>f (ZhV n (ps,s) S n.brs.length j))=rg n.brs.length fun j=>f (Ze6 n (ps,s) S j):=fun f=>Zwb fun j hj=>by rw[ZhV,if_pos hj]
  exact Za6 [0,1,2,3,4,5,6,7] rfl ⟨rfl,rfl,rfl,congrArg (fun l=>some (SM.row qct l true)) (ex fun st=>Zn0 st.1),congrArg (fun l=>some (SM.row IC l true)) (ex fun st=>st.2.1),congrArg (fun l=>some (SM.row .b l true)) (ex fun st=>st.2.2),rfl,rfl,trivial⟩ ⟨rfl,trivial⟩
 |true=>
  have J:i<n.brs.length:=by have:=of_decide_eq_true h1;omega
  obtain⟨x,ae,ah⟩:=ZfA J
  have gx:n.brs[0+(i:Int).toNat]? =some x:=by rw[Xaq];exact ah
  obtain⟨b1,b2,b3,b4,b5,b6⟩:=ZqG hf (XaI ae)
  obtain⟨aj,ak⟩:=hS i J
  have U:i<ps.length:=by omega
  have gp:(ps.map Zc0)[(i:Int).toNat]? =some (Zc0 ps[i]):=by rw[Xad,Xa2,Xac U];rfl
  have R:=hp _ (Xax U)
  have I:Ze6 n (ps,s) S i=ZeP x (Zjw ps[i]) s (S i):=by
   rw[Ze6,ZiK ae,Xa1,Xac U];rfl
  generalize ps[i]=q at gp R I
  have hP:=Zyb q R
  have hA:=Zzm q (by decide) (Zma R)
  have aa:=ZrA R
  generalize Zjw q=f at hA aa I
  have w1:=congrArg (fun x=>some (SV.v (.i .i64) x)) (Zca (k:=i) (by omega))
  obtain⟨hW,hC⟩:=ZrD f aa (lim x) b1 b2
  obtain⟨af,ag⟩:=ZrD f aa (sho x) b3 b4
  have ci:=cin J
  have lA:(fA (ZhV n (ps,s) S i) n.brs.length).length=n.brs.length:=ZdC
  have gq:(fQ (ZhV n (ps,s) S i) n.brs.length)[0+(i:Int).toNat]? =some (Zn0 (S i).1):=ZtR (f:=fun st=>Zn0 st.1) J
  have ga:(fA (ZhV n (ps,s) S i) n.brs.length)[0+(i:Int).toNat]? =some (S i).2.1:=ZtR (f:=fun st=>st.2.1) J
  have go:(fO (ZhV n (ps,s) S i) n.brs.length)[0+(i:Int).toNat]? =some (S i).2.2:=ZtR (f:=fun st=>st.2.2) J
  have eQ: ∀ {v:qct.D},v=Zn0 (Ze6 n (ps,s) S i).1→some (SM.row qct ((fQ (ZhV n (ps,s) S i) n.brs.length).set (0+(i:Int).toNat) v) true)=some (SM.row qct (fQ (ZhV n (ps,s) S (i+1)) n.brs.length) true):=fun h=>congrArg (fun l=>some (SM.row qct l true)) (Zhg (f:=fun st=>Zn0 st.1) h)
  refine Zae ?_
  refine Zac ?_
  refine Zaf ?_
  refine brT h1 ?_
  refine Zae ?_
  refine Zac ?_
  refine Zad rfl (ZaB rfl rfl rfl rfl rfl rfl rfl ci ?_)
  refine Zaa rfl rfl ?_
  refine Zad rfl (ZaN rfl rfl rfl gx rfl ?_)
  refine Zaa rfl rfl ?_
  refine ZbB ?_
  refine Zac ?_
  refine Zad rfl (ZaP rfl rfl rfl rfl rfl rfl rfl rfl ?_)
  refine ZaC rfl ?_
  refine Zaf ?_
  refine Zae ?_
  iterate 2 refine Zac ?_
  refine Zbb rfl (fun _=>rfl) (Xaj i) gp rfl rfl ?_
  refine Zac ?_
  refine Zad rfl ((hP).mono ?_)
  rintro _ rfl
  refine Zaa rfl rfl ?_
  refine Zad rfl ((hA).mono ?_)
  rintro _ rfl
  refine Zaa rfl rfl ?_
  refine ZbB ?_
  refine Zad rfl (ZaP rfl rfl rfl rfl rfl rfl rfl rfl ?_)
  refine ZaC rfl ?_
  refine Zaf ?_
  refine Zae ?_
  iterate 3 refine Zac ?_
  refine Zap rfl (fun _=>rfl) rfl rfl rfl ?_
  refine Zac ?_
  refine Zap rfl (fun _=>rfl) rfl rfl rfl ?_
  refine Zad rfl (ZaB rfl rfl rfl rfl rfl rfl rfl ci ?_)
  refine Zaa rfl rfl ?_
  refine Zad rfl (ZbQ rfl rfl rfl rfl rfl gq rfl rfl rfl ?_)
  refine ZaC rfl ?_
  refine Zaf ?_
  cases h3:gtQ f (lim x)with
  |false=>
   have h4:decide (Zqk f (lim x:Rat)≤0)=true:=by rw[Zwu,h3];rfl
   have I:Ze6 n (ps,s) S i=(f,0,false):=by rw[I,ZeP,h3];rfl
   refine Zae ?_
   refine Zap rfl (fun _=>rfl) rfl rfl rfl ?_
   refine Zac ?_
   refine Zap rfl (fun _=>rfl) rfl rfl rfl ?_
   refine Zad rfl ((hW).mono ?_)
   rintro _ rfl
   refine Zaa rfl rfl ?_
   refine Zad rfl ((hC).mono ?_)
   rintro _ rfl
   refine Zaa rfl rfl ?_
   refine Zac ?_
   refine Zaf ?_
   refine brT h4 ?_
   refine ZBA ?_
   refine ZeJ rfl rfl (opv (fun _=>rfl) rfl rfl ?_)
   refine ZeJ rfl rfl (opv (fun _=>rfl) rfl rfl ?_)
   refine ZeJ rfl rfl (opv (fun _=>rfl) rfl rfl ?_)
   refine ZeJ rfl rfl (opc (fun _=>rfl) rfl rfl rfl ?_)
   refine ZeJ rfl rfl (opv (fun _=>rfl) rfl rfl ?_)
   refine ZeJ rfl rfl (opv (fun _=>rfl) rfl rfl ?_)
   refine ZeJ rfl rfl (opv (fun _=>rfl) rfl rfl ?_)
   refine ZeJ rfl rfl (opv (fun _=>rfl) rfl rfl ?_)
   refine ZeJ rfl rfl (opc (fun _=>rfl) rfl rfl rfl ?_)
   refine Zif rfl rfl rfl rfl rfl ?_
   refine ZeJ rfl rfl (ZaB rfl rfl rfl rfl rfl rfl rfl ci ?_)
   refine Zlx rfl rfl ?_
   refine Zup rfl rfl (ZbQ rfl rfl rfl rfl rfl ga rfl rfl rfl ?_)
   refine ZaC rfl ?_
   refine ZeJ rfl rfl (ZaB rfl rfl rfl rfl rfl rfl rfl ci ?_)
   refine Zlx rfl rfl ?_
   refine Zup rfl rfl (ZbQ rfl rfl rfl rfl rfl go rfl rfl rfl ?_)
   refine ZaC rfl ?_
   refine ZBt ?_
   refine ZvC ?_
   refine Zae ?_
   iterate 2 refine Zac ?_
   refine Zaf ?_
   refine⟨i+1,J,by show n.brs.length-(i+1)<n.brs.length-i;omega, ?_⟩
   show Ent _ _ _ (zW n ps s (i+1)) (hpW n (ZhV n (ps,s) S (i+1)) t gl tl)
   exact Za6 [0,1,2,3,4,5,6,7] rfl ⟨rfl,rfl,rfl,eQ (congrArg (fun st:St=>Zn0 st.1) I).symm,congrArg (fun l=>some (SM.row IC l true)) (Zhg (f:=fun st=>st.2.1) (by rw[I])),congrArg (fun l=>some (SM.row .b l true)) (Zhg (f:=fun st=>st.2.2) (by rw[I])),rfl,rfl,trivial⟩ ⟨rfl,rfl,rfl,rfl,rfl,w1,trivial⟩
  |true=>
   have h4:decide (Zqk f (lim x:Rat)≤0)=false:=by rw[Zwu,h3];rfl
   have hw:IntKind.i64.wrap ((S i).2.1+s)=(S i).2.1+s:=Zan (by omega) (by omega)
   have ab:((fA (ZhV n (ps,s) S i) n.brs.length).set (0+(i:Int).toNat) (IntKind.i64.wrap ((S i).2.1+s)))[0+(i:Int).toNat]? =some (IntKind.i64.wrap ((S i).2.1+s)):=XaK (by rw[lA];omega)
   have I:Ze6 n (ps,s) S i=(f,(S i).2.1+s,(S i).2.2||(decide (hol x<(S i).2.1+s)||gtQ f (sho x))):=by rw[I,ZeP,h3];rfl
   have eA:=congrArg (fun l=>some (SM.row IC l true)) (Zhg (n:=n) (x:=(ps,s)) (S:=S) (i:=i) (N:=n.brs.length) (f:=fun st=>st.2.1) (v:=IntKind.i64.wrap ((S i).2.1+s)) (by rw[I,hw]))
   refine Zae ?_
   refine Zap rfl (fun _=>rfl) rfl rfl rfl ?_
   refine Zac ?_
   refine Zap rfl (fun _=>rfl) rfl rfl rfl ?_
   refine Zad rfl ((hW).mono ?_)
   rintro _ rfl
   refine Zaa rfl rfl ?_
   refine Zad rfl ((hC).mono ?_)
   rintro _ rfl
   refine Zaa rfl rfl ?_
   refine Zac ?_
   refine Zaf ?_
   refine brF h4 ?_
   refine Zae ?_
   iterate 3 refine Zac ?_
   refine Zap rfl (fun _=>rfl) rfl rfl rfl ?_
   refine Zac ?_
   refine Zad rfl (ZaB rfl rfl rfl rfl rfl rfl rfl ci ?_)
   refine Zaa rfl rfl ?_
   refine Zad rfl (ZaN rfl rfl rfl ga rfl ?_)
   refine Zaa rfl rfl ?_
   iterate 2 refine Zac ?_
   refine Zad rfl (ZaB rfl rfl rfl rfl rfl rfl rfl ci ?_)
   refine Zaa rfl rfl ?_
   refine Zad rfl (ZbQ rfl rfl rfl rfl rfl ga rfl rfl rfl ?_)
   refine ZaC rfl ?_
   refine Zaf ?_
   cases h5:decide (hol x<(S i).2.1+s)with
   |true=>
    have C:decide (hol x<IntKind.i64.wrap ((S i).2.1+s))=true:=by rw[hw];exact h5
    refine Zae ?_
    iterate 3 refine Zac ?_
    refine Zap rfl (fun _=>rfl) rfl rfl rfl ?_
    refine Zac ?_
    refine Zad rfl (ZaB rfl rfl rfl rfl rfl rfl rfl ci ?_)
    refine Zaa rfl rfl ?_
    refine Zad rfl (ZaN rfl rfl rfl ab rfl ?_)
    refine Zaa rfl rfl ?_
    refine Zac ?_
    refine Zap rfl (fun _=>rfl) rfl rfl rfl ?_
    iterate 2 refine Zac ?_
    refine Zah C ?_
    refine Zah C ?_
    refine Zah C ?_
    refine Zah C ?_
    refine Zah C ?_
    refine Zah C ?_
    refine Zat C ?_
    refine Zaf ?_
    refine Xaa (fun _=> ?_) (fun h=>by first|(cases h;done)|exact(nf C h).elim)
    refine Zae ?_
    iterate 3 refine Zac ?_
    refine Zap rfl (fun _=>rfl) rfl rfl rfl ?_
    refine Zac ?_
    refine Zad rfl (ZaB rfl rfl rfl rfl rfl rfl rfl ci ?_)
    refine Zaa rfl rfl ?_
    refine Zad rfl (ZbQ rfl rfl rfl rfl rfl go rfl rfl rfl ?_)
    refine ZaC rfl ?_
    refine Zaf ?_
    refine Zae ?_
    iterate 2 refine Zac ?_
    refine Zaf ?_
    refine⟨i+1,J,by show n.brs.length-(i+1)<n.brs.length-i;omega, ?_⟩
    show Ent _ _ _ (zW n ps s (i+1)) (hpW n (ZhV n (ps,s) S (i+1)) t gl tl)
    exact Za6 [0,1,2,3,4,5,6,7] rfl ⟨rfl,rfl,rfl,eQ (congrArg (fun st:St=>Zn0 st.1) I).symm,eA,congrArg (fun l=>some (SM.row .b l true)) (Zhg (f:=fun st=>st.2.2) (by rw[I,h5];exact(Bool.or_true _).symm)),rfl,rfl,trivial⟩ ⟨rfl,rfl,rfl,rfl,rfl,w1,trivial⟩
   |false=>
    have C:decide (hol x<IntKind.i64.wrap ((S i).2.1+s))=false:=by rw[hw];exact h5
    cases h6:gtQ f (sho x)with
    |true=>
     have ad:decide (0<Zqk f (sho x:Rat))=true:=h6
     refine Zae ?_
     iterate 3 refine Zac ?_
     refine Zap rfl (fun _=>rfl) rfl rfl rfl ?_
     refine Zac ?_
     refine Zad rfl (ZaB rfl rfl rfl rfl rfl rfl rfl ci ?_)
     refine Zaa rfl rfl ?_
     refine Zad rfl (ZaN rfl rfl rfl ab rfl ?_)
     refine Zaa rfl rfl ?_
     refine Zac ?_
     refine Zap rfl (fun _=>rfl) rfl rfl rfl ?_
     iterate 2 refine Zac ?_
     refine Zaj rfl rfl rfl C (fun _=>rfl) rfl rfl rfl ?_
     refine Zab C ?_
     refine Zaj rfl rfl rfl C (fun _=>rfl) rfl rfl rfl ?_
     refine Zam rfl rfl rfl C ((af).mono ?_)
     rintro _ rfl
     refine Zaa rfl rfl ?_
     refine Zam rfl rfl rfl C ((ag).mono ?_)
     rintro _ rfl
     refine Zaa rfl rfl ?_
     refine Zab C ?_
     refine Zal C ?_
     refine Zaf ?_
     refine Xaa (fun _=> ?_) (fun h=>by first|(cases h;done)|exact(nf ad h).elim)
     refine Zae ?_
     iterate 3 refine Zac ?_
     refine Zap rfl (fun _=>rfl) rfl rfl rfl ?_
     refine Zac ?_
     refine Zad rfl (ZaB rfl rfl rfl rfl rfl rfl rfl ci ?_)
     refine Zaa rfl rfl ?_
     refine Zad rfl (ZbQ rfl rfl rfl rfl rfl go rfl rfl rfl ?_)
     refine ZaC rfl ?_
     refine Zaf ?_
     refine Zae ?_
     iterate 2 refine Zac ?_
     refine Zaf ?_
     refine⟨i+1,J,by show n.brs.length-(i+1)<n.brs.length-i;omega, ?_⟩
     show Ent _ _ _ (zW n ps s (i+1)) (hpW n (ZhV n (ps,s) S (i+1)) t gl tl)
     exact Za6 [0,1,2,3,4,5,6,7] rfl ⟨rfl,rfl,rfl,eQ (congrArg (fun st:St=>Zn0 st.1) I).symm,eA,congrArg (fun l=>some (SM.row .b l true)) (Zhg (f:=fun st=>st.2.2) (by rw[I,h5,h6];exact(Bool.or_true _).symm)),rfl,rfl,trivial⟩ ⟨rfl,rfl,rfl,rfl,rfl,w1,trivial⟩
    |false=>
     have ad:decide (0<Zqk f (sho x:Rat))=false:=h6
     refine Zae ?_
     iterate 3 refine Zac ?_
     refine Zap rfl (fun _=>rfl) rfl rfl rfl ?_
     refine Zac ?_
     refine Zad rfl (ZaB rfl rfl rfl rfl rfl rfl rfl ci ?_)
     refine Zaa rfl rfl ?_
     refine Zad rfl (ZaN rfl rfl rfl ab rfl ?_)
     refine Zaa rfl rfl ?_
     refine Zac ?_
     refine Zap rfl (fun _=>rfl) rfl rfl rfl ?_
     iterate 2 refine Zac ?_
     refine Zaj rfl rfl rfl C (fun _=>rfl) rfl rfl rfl ?_
     refine Zab C ?_
     refine Zaj rfl rfl rfl C (fun _=>rfl) rfl rfl rfl ?_
     refine Zam rfl rfl rfl C ((af).mono ?_)
     rintro _ rfl
     refine Zaa rfl rfl ?_
     refine Zam rfl rfl rfl C ((ag).mono ?_)
     rintro _ rfl
     refine Zaa rfl rfl ?_
     refine Zab C ?_
     refine Zal C ?_
     refine Zaf ?_
     refine Xaa (fun h=>by first|(cases h;done)|exact(nf h ad).elim) (fun _=> ?_)
     refine Zae ?_
     iterate 2 refine Zac ?_
     refine Zaf ?_
     refine⟨i+1,J,by show n.brs.length-(i+1)<n.brs.length-i;omega, ?_⟩
     show Ent _ _ _ (zW n ps s (i+1)) (hpW n (ZhV n (ps,s) S (i+1)) t gl tl)
     exact Za6 [0,1,2,3,4,5,6,7] rfl ⟨rfl,rfl,rfl,eQ (congrArg (fun st:St=>Zn0 st.1) I).symm,eA,congrArg (fun l=>some (SM.row .b l true)) (ZuW (f:=fun st=>st.2.2) (by rw[I,h5,h6];exact(Bool.or_false _).symm)),rfl,rfl,trivial⟩ ⟨rfl,rfl,rfl,rfl,rfl,w1,trivial⟩
theorem ZyM (n:Net) (hf:Fine n) (S:Nat→St) (t:Int) (ht:0≤t∧t≤200000) (gl:List (List Txt)) (tl:List Int) (I:List Txt) (hz: ∀a∈I,a.length≤9223372036854775806) (s:Int) (hS: ∀j,j<n.brs.length→0≤(S j).2.1∧(S j).2.1≤t):
 OpenOK Tryz.prog Zao 7 [.ptr 1 0 0, .v (.l .s) I, .v IC s] (hpW n S t gl tl) (fun V hp=>match decide (Zci n.brs.length t I s=0)with
  |false=>V= .tup [.nils, .v (.i .i64) (Zci n.brs.length t I s)]∧hp=hpW n S t gl tl
  |true=> ∃ps:List Rat,I=ps.map Zc0∧(∀p∈ps,Zkj p=true)∧V= .tup [.ref 8 0 (ovN n (Ze6 n (ps,s) S) n.brs.length).length none, .v (.i .i64) (0:Int)]∧hp=hpW n (Ze6 n (ps,s) S) (t+s) gl tl++ [.row .s (ovN n (Ze6 n (ps,s) S) n.brs.length) true]):=by
 refine Zd2 (fn:=Tryz.f7) (code:=Zbn Tryz.f7) Zag (by kernel_rfl) Tryz.func7 (by kernel_rfl) (Xal (by kernel_rfl)) ?_
 intro base
 obtain⟨_,_,hN,_⟩:=Zev hf
 have hC:=ZpX I hz
 have hE:Zci n.brs.length t I s=bif !decide (ZlF I=0)then ZlF I else bif !decide ((I.length:Int)=(n.brs.length:Int))then 3 else bif decide (s<1)||decide (200000-t<s)then 12 else 0:=rfl
 generalize Zci n.brs.length t I s=E at hE⊢
 cases U:decide (ZlF I=0)with
 |false=>
  rw[U]at hE
  have hE:E=ZlF I:=hE
  have J:(!decide (ZlF I=0))=true:=by rw[U];rfl
  rw[hE,U]
  refine Zae ?_
  iterate 2 refine Zac ?_
  refine Zaf ?_
  refine Zae ?_
  refine Zac ?_
  refine Zad rfl ((hC).mono ?_)
  rintro _ rfl
  refine Zaa rfl rfl ?_
  refine Zac ?_
  refine Zaf ?_
  refine Zae ?_
  iterate 2 refine Zac ?_
  refine Zaf ?_
  refine Xaa (fun _=> ?_) (fun h=>by first|(cases h;done)|exact(nf J h).elim)
  refine Zae ?_
  iterate 3 refine Zac ?_
  refine Zaf ?_
  exact⟨rfl,rfl⟩
 |true=>
  rw[U]at hE
  have hE:E=bif !decide ((I.length:Int)=(n.brs.length:Int))then 3 else bif decide (s<1)||decide (200000-t<s)then 12 else 0:=hE
  have J:(!decide (ZlF I=0))=false:=by rw[U];rfl
  refine Zae ?_
  iterate 2 refine Zac ?_
  refine Zaf ?_
  refine Zae ?_
  refine Zac ?_
  refine Zad rfl ((hC).mono ?_)
  rintro _ rfl
  refine Zaa rfl rfl ?_
  refine Zac ?_
  refine Zaf ?_
  refine Zae ?_
  iterate 2 refine Zac ?_
  refine Zaf ?_
  refine Xaa (fun h=>by first|(cases h;done)|exact(nf h J).elim) (fun _=> ?_)
  cases h2:(!decide ((I.length:Int)=(n.brs.length:Int)))with
  |true=>
   rw[h2]at hE
   have hE:E=3:=hE
   rw[hE]
   refine Zae ?_
   iterate 5 refine Zac ?_
   refine Zap rfl (fun _=>rfl) rfl rfl rfl ?_
   iterate 3 refine Zac ?_
   refine Zaf ?_
   refine brT h2 ?_
   refine Zae ?_
   iterate 2 refine Zac ?_
   refine Zaf ?_
   exact⟨rfl,rfl⟩
  |false=>
   rw[h2]at hE
   have hE:E=bif decide (s<1)||decide (200000-t<s)then 12 else 0:=hE
   have hl:I.length=n.brs.length:=by
    have h2:(I.length:Int)=(n.brs.length:Int):=by simpa using h2
    omega
   refine Zae ?_
   iterate 5 refine Zac ?_
   refine Zap rfl (fun _=>rfl) rfl rfl rfl ?_
   iterate 3 refine Zac ?_
   refine Zaf ?_
   refine brF h2 ?_
   have hw:IntKind.i64.wrap (200000-t)=200000-t:=Zan (by omega) (by omega)
   cases C:decide (s<1)with
   |true=>
    rw[C]at hE
    have hE:E=12:=hE
    rw[hE]
    refine Zae ?_
    iterate 3 refine Zac ?_
    refine Zah C ?_
    refine Zah C ?_
    refine Zah C ?_
    refine Zah C ?_
    refine Zah C ?_
    refine Zah C ?_
    refine Zah C ?_
    refine Zat C ?_
    refine Zac ?_
    refine Zaf ?_
    refine brT C ?_
    refine Zae ?_
    iterate 2 refine Zac ?_
    refine Zaf ?_
    exact⟨rfl,rfl⟩
   |false=>
    cases h4:decide (200000-t<s)with
    |true=>
     have R:decide (IntKind.i64.wrap (200000-t)<s)=true:=by rw[hw];exact h4
     rw[C,h4]at hE
     have hE:E=12:=hE
     rw[hE]
     refine Zae ?_
     iterate 3 refine Zac ?_
     refine Zab C ?_
     refine Zab C ?_
     refine Zab C ?_
     refine Zab C ?_
     refine Zaj rfl rfl rfl C (fun _=>rfl) rfl rfl rfl ?_
     refine Zab C ?_
     refine Zab C ?_
     refine Zal C ?_
     refine Zac ?_
     refine Zaf ?_
     refine Xaa (fun _=> ?_) (fun h=>by first|(cases h;done)|exact(nf R h).elim)
     refine Zae ?_
     iterate 2 refine Zac ?_
     refine Zaf ?_
     exact⟨rfl,rfl⟩
    |false=>
     have R:decide (IntKind.i64.wrap (200000-t)<s)=false:=by rw[hw];exact h4
     rw[C,h4]at hE
     have ab:E=0:=hE
     have ad:1≤s:=by have:=of_decide_eq_false C;omega
     have ag:s≤200000-t:=by have:=of_decide_eq_false h4;omega
     have ae:IntKind.i64.wrap (t+s)=t+s:=Zan (by omega) (by omega)
     obtain⟨ps,rfl,aa⟩: ∃ps:List Rat,I=ps.map Zc0∧ ∀p∈ps,Zkj p=true:=Ztt (Zts (of_decide_eq_true U)).2
     have hl:ps.length=n.brs.length:=by rw[Xa0]at hl;exact hl
     have hO:=Zv0 n (by omega) (Ze6 n (ps,s) S) (t+s)
     rw[ab]
     refine Zae ?_
     iterate 3 refine Zac ?_
     refine Zab C ?_
     refine Zab C ?_
     refine Zab C ?_
     refine Zab C ?_
     refine Zaj rfl rfl rfl C (fun _=>rfl) rfl rfl rfl ?_
     refine Zab C ?_
     refine Zab C ?_
     refine Zal C ?_
     refine Zac ?_
     refine Zaf ?_
     refine Xaa (fun h=>by first|(cases h;done)|exact(nf h R).elim) (fun _=> ?_)
     refine Zae ?_
     iterate 3 refine Zac ?_
     refine Zap rfl (fun _=>rfl) rfl rfl rfl ?_
     iterate 4 refine Zac ?_
     refine Zad rfl (ZaP rfl rfl rfl rfl rfl rfl rfl rfl ?_)
     refine ZaC rfl ?_
     refine Zaf ?_
     refine Zae ?_
     iterate 3 refine Zac ?_
     refine Zap rfl (fun _=>rfl) rfl rfl rfl ?_
     iterate 2 refine Zac ?_
     refine Zaf ?_
     refine((Zrl n hf S (t+s) gl tl ps aa hl s ad (by omega) (fun j hj=>⟨(hS j hj).1,by have:=(hS j hj).2;omega⟩) base).ent ?_).through ?_
     ·exact Za6 [0,1,2,3,4,5,6,7] rfl ⟨rfl,congrArg (fun t=>some (SM.cell (wS 2 3 4 5 n.brs.length t) true)) ae,rfl,rfl,rfl,rfl,rfl,rfl,trivial⟩ ⟨rfl,rfl,rfl,rfl,rfl,rfl,trivial⟩
     rintro _ tm hp ⟨rfl,af⟩
     refine⟨_,_,af, ?_⟩
     show wp _ _ _ _ _ _ _ _ _
     refine Zae ?_
     refine Zac ?_
     refine Zad rfl (Zez rfl rfl rfl rfl rfl (Zzd (n:=n) (S:=Ze6 n (ps,s) S) (t:=t+s) (gl:=gl) (tl:=tl) (ex:=[]) (hO.mono ?_)))
     rintro _ _ _ ⟨rfl,rfl,rfl⟩
     refine Zaa rfl rfl ?_
     iterate 2 refine Zac ?_
     refine Zaf ?_
     exact⟨ps,rfl,aa,rfl,rfl⟩
theorem ZtM (q:Rat) (j:Zkj q=true) (n:Int) (C:0≤n) (I:n≤100000):PureOK Tryz.prog Zao 32 [.v (.i .i64) n] (fun V=>V= .v .s (Zc0 (n:Rat)))∧PureOK Tryz.prog Zao 31 [.v .s (Zc0 q), .v .s (Zc0 (n:Rat))] (fun V=>V= .v (.i .i64) (Zqk q (n:Rat))):=
 ⟨Zt8 n (by omega) (by omega),ZuD q n (by decide) (Zox j) (Zox (Zn6 (by omega)))⟩
theorem Zv4 {α:Type} {l:List α} {i:Nat} {a b:α}:(l.set i a).set (0+(i:Int).toNat) b=l.set i b:=by rw[Xaq,Xad,List.set_set]
theorem ZAp {α:Type} {l:List α} {i:Nat} {a:α} (h:i<l.length):(l.set i a)[0+(i:Int).toNat]? =some a:=by rw[Xaq,Xad];exact XaK h
theorem Zds {α:Type} {l:List α} {i:Nat} {a:α} (h:l[i]? =some a):l.set i a=l:=by
 refine List.ext_getElem? fun j=> ?_
 rw[List.getElem?_set]
 by_cases e:i=j
 ·subst e;rw[if_pos rfl,if_pos (Xae.1 h).1,h]
 ·rw[if_neg e]
theorem ZyB {up sh:Bool} {h u:Int} {o:Bool} (hu:0≤u) (c:Nat):0≤(itr up sh h u o c).1∧(itr up sh h u o c).1≤u+(c:Int):=by
 cases c with
 |zero=>exact⟨hu,by show u≤u+0;omega⟩
 |succ c=>
  cases up with
  |false=>exact⟨XaT 0,by show(0:Int)≤u+((c+1:Nat):Int);omega⟩
  |true=>exact⟨by show 0≤u+((c+1:Nat):Int);omega,XaT _⟩
def hR (U:List Int) (O A:List Bool) (x:Br):List SM:=[.row IC U true, .row .b O true, .row .b A true, .cell (ZcM Zhx x) true]
def zR (n:Net) (gl:List (List Txt)) (tl:List Int) (i:Nat):TM:=[(1, .v (.l (.l .s)) gl),(2, .v (.l IC) tl),(10, .ref 0 0 n.brs.length none),(11, .ref 1 0 n.brs.length none),(12, .ref 2 0 n.brs.length none),(28, .v (.l Zhx) n.brs),(29,nt n.brs.length),(30,nt i)]
def zM (n:Net) (gl:List (List Txt)) (tl:List Int) (i k:Nat):TM:=(13,nt i)::(14, .ptr 3 0 0)::(35, .v (.l (.l .s)) gl)::(36,nt gl.length)::(37,nt k)::zR n gl tl i
def zI (n:Net) (gl:List (List Txt)) (tl:List Int) (i k:Nat) (q:Rat) (s c:Nat):TM:=(17, .v .s (Zc0 q))::(59,nt s)::(60,nt c)::zM n gl tl i k
theorem ZA5 (n:Net) (gl:List (List Txt)) (tl:List Int) (x:Br) (hx:Zz9 x) (q:Rat) (hq:Zkj q=true) (i k:Nat) (hi:i<n.brs.length) (U:List Int) (O A:List Bool) (lU:U.length=n.brs.length) (lO:O.length=n.brs.length) (up sh:Bool) (ab:A[i]? =some up) (ad:gtQ q (sho x)=sh) (u:Int) (o:Bool) (hu:U[i]? =some u) (ho:O[i]? =some o) (ae:0≤u) (ai:u≤2000000) (s:Nat) (hs:s≤200000):
 LoopOK Tryz.prog Zao 0 ⟨9,0,111⟩ (Za4 Tryz.f9 12) (zI n gl tl i k q s 0) (hR U O A x)
 (fun e tm hp=>e= .exit 4∧Ent 0 tm hp (zM n gl tl i k) (hR (U.set i (itr up sh (hol x) u o s).1) (O.set i (itr up sh (hol x) u o s).2) A x)):=by
 refine Zaw Zag rfl (zI n gl tl i k q s) (fun c=>hR (U.set i (itr up sh (hol x) u o c).1) (O.set i (itr up sh (hol x) u o c).2) A x) (fun c=>c≤s) (fun c=>s-c) ?_ 0 (Xao _) (by show Ent 0 _ _ _ (hR (U.set i u) (O.set i o) A x);rw[Zds hu,Zds ho];exact ZaJ)
 obtain⟨b1,b2,b3,b4,b5,b6⟩:=hx
 obtain⟨af,ag⟩:=ZtM q hq (sho x) b3 b4
 intro c hc
 have J:=ZvJ up sh (hol x) u o c
 have R:=ZyB (up:=up) (sh:=sh) (h:=hol x) (o:=o) ae c
 cases h1:decide ((c:Int)<(s:Int))with
 |false=>
  have e:c=s:=by have:=of_decide_eq_false h1;omega
  subst e
  refine Zae ?_
  refine Zac ?_
  refine Zaf ?_
  refine brF h1 ?_
  exact⟨rfl,Zaq ⟨rfl,rfl,rfl,rfl,rfl,rfl,rfl,rfl,rfl,rfl,rfl,rfl,rfl,trivial⟩⟩
 |true=>
  have ah:c<s:=by have:=of_decide_eq_true h1;omega
  generalize itr up sh (hol x) u o c=st at J R
  obtain⟨C,oc⟩:=st
  simp only at R
  have ci:=cin hi
  have gA:A[0+(i:Int).toNat]? =some up:=by rw[Xaq,Xad];exact ab
  have gU: ∀v:Int,(U.set i v)[0+(i:Int).toNat]? =some v:=fun v=>ZAp (by omega)
  have I: ∀v:Bool,(O.set i v)[0+(i:Int).toNat]? =some v:=fun v=>ZAp (by omega)
  have w1:=congrArg (fun x=>some (SV.v (.i .i64) x)) (Zca (k:=c) (by omega))
  have hw:IntKind.i64.wrap (C+1)=C+1:=Zan (by omega) (by omega)
  have fin: ∀ {tm:TM} {hp:List SM},Ent 0 tm hp (zI n gl tl i k q s (c+1)) (hR (U.set i (itr up sh (hol x) u o (c+1)).1) (O.set i (itr up sh (hol x) u o (c+1)).2) A x)→_:=fun{tm hp} hE=>(⟨c+1,ah,by show s-(c+1)<s-c;omega,hE⟩:ZqS 0 (zI n gl tl i k q s) (fun c=>hR (U.set i (itr up sh (hol x) u o c).1) (O.set i (itr up sh (hol x) u o c).2) A x) (fun c=>c≤s) (fun c=>s-c) c (fun e tm hp=>e= .exit 4∧Ent 0 tm hp (zM n gl tl i k) (hR (U.set i (itr up sh (hol x) u o s).1) (O.set i (itr up sh (hol x) u o s).2) A x)) .normal tm hp)
  rw[J]at fin
  refine Zae ?_
  refine Zac ?_
  refine Zaf ?_
  refine brT h1 ?_
  refine Zae ?_
  iterate 2 refine Zac ?_
  refine Zad rfl (ZaB rfl rfl rfl rfl rfl rfl rfl ci ?_)
  refine Zaa rfl rfl ?_
  refine Zad rfl (ZaN rfl rfl rfl gA rfl ?_)
  refine Zaa rfl rfl ?_
  refine Zaf ?_
  cases up with
  |false=>
   refine Xaa (fun h=>by cases h) (fun _=> ?_)
   refine Zae ?_
   iterate 2 refine Zac ?_
   refine Zad rfl (ZaB rfl rfl rfl rfl rfl rfl rfl ci ?_)
   refine Zaa rfl rfl ?_
   refine Zad rfl (ZbQ rfl rfl rfl rfl rfl (gU C) rfl rfl rfl ?_)
   refine ZaC rfl ?_
   refine Zaf ?_
   refine Zae ?_
   iterate 4 refine Zac ?_
   refine Zad rfl (ZaB rfl rfl rfl rfl rfl rfl rfl ci ?_)
   refine Zaa rfl rfl ?_
   refine Zad rfl (ZaN rfl rfl rfl gA rfl ?_)
   refine Zaa rfl rfl ?_
   refine Zac ?_
   refine Zah rfl ?_
   refine Zah rfl ?_
   refine Zah rfl ?_
   refine Zah rfl ?_
   refine Zah rfl ?_
   refine Zcs ?_
   refine Zcs ?_
   refine Zcs ?_
   refine Zcs ?_
   refine Zcs ?_
   refine Zcs ?_
   refine Zcs ?_
   refine Zah rfl ?_
   refine Zah rfl ?_
   refine Zcs ?_
   refine Zcs ?_
   refine Zcs ?_
   refine Zcs ?_
   refine Zcs ?_
   refine Zcs ?_
   refine Zah rfl ?_
   refine Zal rfl ?_
   refine Zad rfl (ZaB rfl rfl rfl rfl rfl rfl rfl ci ?_)
   refine Zaa rfl rfl ?_
   refine Zad rfl (ZbQ rfl rfl rfl rfl rfl (I oc) rfl rfl rfl ?_)
   refine ZaC rfl ?_
   refine Zaf ?_
   refine Zae ?_
   iterate 2 refine Zac ?_
   refine Zaf ?_
   exact fin (Za6 [0,1,2,3] rfl ⟨congrArg (fun l=>some (SM.row IC l true)) Zv4,congrArg (fun l=>some (SM.row .b l true)) Zv4,rfl,rfl,trivial⟩ ⟨rfl,rfl,w1,rfl,rfl,rfl,rfl,rfl,rfl,rfl,rfl,rfl,rfl,rfl,rfl,rfl,trivial⟩)
  |true=>
   refine Xaa (fun _=> ?_) (fun h=>by cases h)
   have eU:some (SM.row IC ((U.set i C).set (0+(i:Int).toNat) (IntKind.i64.wrap (C+1))) true)=some (SM.row IC (U.set i (C+1)) true):=by rw[Zv4,hw]
   have aa:((U.set i C).set (0+(i:Int).toNat) (IntKind.i64.wrap (C+1)))[0+(i:Int).toNat]? =some (IntKind.i64.wrap (C+1)):=by rw[Zv4];exact gU _
   refine Zae ?_
   iterate 2 refine Zac ?_
   refine Zad rfl (ZaB rfl rfl rfl rfl rfl rfl rfl ci ?_)
   refine Zaa rfl rfl ?_
   refine Zad rfl (ZaN rfl rfl rfl (gU C) rfl ?_)
   refine Zaa rfl rfl ?_
   refine Zac ?_
   refine Zad rfl (ZaB rfl rfl rfl rfl rfl rfl rfl ci ?_)
   refine Zaa rfl rfl ?_
   refine Zad rfl (ZbQ rfl rfl rfl rfl rfl (gU C) rfl rfl rfl ?_)
   refine ZaC rfl ?_
   refine Zaf ?_
   cases oc with
   |true=>
    refine Zae ?_
    iterate 4 refine Zac ?_
    refine Zad rfl (ZaB rfl rfl rfl rfl rfl rfl rfl ci ?_)
    refine Zaa rfl rfl ?_
    refine Zad rfl (ZaN rfl rfl rfl gA rfl ?_)
    refine Zaa rfl rfl ?_
    refine Zac ?_
    refine Zab rfl ?_
    refine Zab rfl ?_
    refine Zam rfl rfl rfl rfl (ZaB rfl rfl rfl rfl rfl rfl rfl ci ?_)
    refine Zaa rfl rfl ?_
    refine Zam rfl rfl rfl rfl (ZaN rfl rfl rfl (I true) rfl ?_)
    refine Zaa rfl rfl ?_
    refine Zab rfl ?_
    refine Zah rfl ?_
    refine Zah rfl ?_
    refine Zah rfl ?_
    refine Zah rfl ?_
    refine Zah rfl ?_
    refine Zah rfl ?_
    refine Zah rfl ?_
    refine Za0 rfl rfl rfl rfl rfl rfl rfl rfl rfl rfl ?_
    refine Zab rfl ?_
    refine Zah rfl ?_
    refine Zah rfl ?_
    refine Zah rfl ?_
    refine Zah rfl ?_
    refine Zah rfl ?_
    refine Zah rfl ?_
    refine Za0 rfl rfl rfl rfl rfl rfl rfl rfl rfl rfl ?_
    refine Zat rfl ?_
    refine Zad rfl (ZaB rfl rfl rfl rfl rfl rfl rfl ci ?_)
    refine Zaa rfl rfl ?_
    refine Zad rfl (ZbQ rfl rfl rfl rfl rfl (I true) rfl rfl rfl ?_)
    refine ZaC rfl ?_
    refine Zaf ?_
    refine Zae ?_
    iterate 2 refine Zac ?_
    refine Zaf ?_
    exact fin (Za6 [0,1,2,3] rfl ⟨eU,congrArg (fun l=>some (SM.row .b l true)) Zv4,rfl,rfl,trivial⟩ ⟨rfl,rfl,w1,rfl,rfl,rfl,rfl,rfl,rfl,rfl,rfl,rfl,rfl,rfl,rfl,rfl,trivial⟩)
   |false=>
    cases h5:decide (hol x<C+1)with
    |true=>
     have j:decide (hol x<IntKind.i64.wrap (C+1))=true:=by rw[hw];exact h5
     simp only[h5,cond_true,cond_false]at fin
     refine Zae ?_
     iterate 4 refine Zac ?_
     refine Zad rfl (ZaB rfl rfl rfl rfl rfl rfl rfl ci ?_)
     refine Zaa rfl rfl ?_
     refine Zad rfl (ZaN rfl rfl rfl gA rfl ?_)
     refine Zaa rfl rfl ?_
     refine Zac ?_
     refine Zab rfl ?_
     refine Zab rfl ?_
     refine Zam rfl rfl rfl rfl (ZaB rfl rfl rfl rfl rfl rfl rfl ci ?_)
     refine Zaa rfl rfl ?_
     refine Zam rfl rfl rfl rfl (ZaN rfl rfl rfl (I false) rfl ?_)
     refine Zaa rfl rfl ?_
     refine Zab rfl ?_
     refine Zab rfl ?_
     refine Zab rfl ?_
     refine Zam rfl rfl rfl rfl (ZaB rfl rfl rfl rfl rfl rfl rfl ci ?_)
     refine Zaa rfl rfl ?_
     refine Zam rfl rfl rfl rfl (ZaN rfl rfl rfl aa rfl ?_)
     refine Zaa rfl rfl ?_
     refine Zab rfl ?_
     refine Zaj rfl rfl rfl rfl (fun _=>rfl) rfl rfl rfl ?_
     refine Zab rfl ?_
     refine Za9 rfl rfl rfl rfl rfl rfl rfl rfl rfl rfl ?_
     refine Zab rfl ?_
     refine Zah j ?_
     refine Zah j ?_
     refine Zah j ?_
     refine Zah j ?_
     refine Zah j ?_
     refine Zah j ?_
     refine Za0 rfl rfl rfl rfl rfl rfl j rfl rfl rfl ?_
     refine Zat rfl ?_
     refine Zad rfl (ZaB rfl rfl rfl rfl rfl rfl rfl ci ?_)
     refine Zaa rfl rfl ?_
     refine Zad rfl (ZbQ rfl rfl rfl rfl rfl (I false) rfl rfl rfl ?_)
     refine ZaC rfl ?_
     refine Zaf ?_
     refine Zae ?_
     iterate 2 refine Zac ?_
     refine Zaf ?_
     exact fin (Za6 [0,1,2,3] rfl ⟨eU,congrArg (fun l=>some (SM.row .b l true)) (Zv4.trans (congrArg (O.set i) j.symm▸rfl)),rfl,rfl,trivial⟩ ⟨rfl,rfl,w1,rfl,rfl,rfl,rfl,rfl,rfl,rfl,rfl,rfl,rfl,rfl,rfl,rfl,trivial⟩)
    |false=>
     have j:decide (hol x<IntKind.i64.wrap (C+1))=false:=by rw[hw];exact h5
     simp only[h5,cond_true,cond_false]at fin
     have h6:decide (0<Zqk q (sho x:Rat))=sh:=ad
     refine Zae ?_
     iterate 4 refine Zac ?_
     refine Zad rfl (ZaB rfl rfl rfl rfl rfl rfl rfl ci ?_)
     refine Zaa rfl rfl ?_
     refine Zad rfl (ZaN rfl rfl rfl gA rfl ?_)
     refine Zaa rfl rfl ?_
     refine Zac ?_
     refine Zab rfl ?_
     refine Zab rfl ?_
     refine Zam rfl rfl rfl rfl (ZaB rfl rfl rfl rfl rfl rfl rfl ci ?_)
     refine Zaa rfl rfl ?_
     refine Zam rfl rfl rfl rfl (ZaN rfl rfl rfl (I false) rfl ?_)
     refine Zaa rfl rfl ?_
     refine Zab rfl ?_
     refine Zab rfl ?_
     refine Zab rfl ?_
     refine Zam rfl rfl rfl rfl (ZaB rfl rfl rfl rfl rfl rfl rfl ci ?_)
     refine Zaa rfl rfl ?_
     refine Zam rfl rfl rfl rfl (ZaN rfl rfl rfl aa rfl ?_)
     refine Zaa rfl rfl ?_
     refine Zab rfl ?_
     refine Zaj rfl rfl rfl rfl (fun _=>rfl) rfl rfl rfl ?_
     refine Zab rfl ?_
     refine Za9 rfl rfl rfl rfl rfl rfl rfl rfl rfl rfl ?_
     refine Zab rfl ?_
     refine Zab j ?_
     refine Zab j ?_
     refine Zaj rfl rfl rfl j (fun _=>rfl) rfl rfl rfl ?_
     refine Zam rfl rfl rfl j ((af).mono ?_)
     rintro _ rfl
     refine Zaa rfl rfl ?_
     refine Zam rfl rfl rfl j ((ag).mono ?_)
     rintro _ rfl
     refine Zaa rfl rfl ?_
     refine Zab j ?_
     refine Za9 rfl rfl rfl rfl rfl rfl j rfl rfl rfl ?_
     refine Zat rfl ?_
     refine Zad rfl (ZaB rfl rfl rfl rfl rfl rfl rfl ci ?_)
     refine Zaa rfl rfl ?_
     refine Zad rfl (ZbQ rfl rfl rfl rfl rfl (I false) rfl rfl rfl ?_)
     refine ZaC rfl ?_
     refine Zaf ?_
     refine Zae ?_
     iterate 2 refine Zac ?_
     refine Zaf ?_
     exact fin (Za6 [0,1,2,3] rfl ⟨eU,congrArg (fun l=>some (SM.row .b l true)) (Zv4.trans (congrArg (O.set i) h6)),rfl,rfl,trivial⟩ ⟨rfl,rfl,w1,rfl,rfl,rfl,rfl,rfl,rfl,rfl,rfl,rfl,rfl,rfl,rfl,rfl,trivial⟩)
def gOK (n:Net) (g:List Go2):Prop:=g.length≤6∧ ∀x∈g,x.1.length=n.brs.length∧(∀p∈x.1,Zkj p=true)∧1≤x.2∧x.2≤200000
def gF (g:List Go2):List (List Txt):=g.map fun x=>x.1.map Zc0
def gT (g:List Go2):List Int:=g.map (·.2)
theorem ZuK {q:Rat} (h:Zkj q=true):Zkj (Zjw q)=true:=by
 rw[Zjw]
 cases decide (q.num.sign<0)with
 |false=>exact h
 |true=>exact ZyH (Xan _) (ZrJ (Zox h))
theorem Zwi {n:Net} {i:Nat} {g:List Go2} (C:gOK n g) (I:0≤lim (brA n i)) (k:Nat):0≤(ZbT n i (g.take k)).2.1∧(ZbT n i (g.take k)).2.1≤2000000:=by
 have h:=(Zk8 I (g.take k) fun x j=>by have:=(C.2 x (XaH j)).2.2.1;omega).1
 have J: ∀l:List Go2,(∀x∈l,x.2≤200000)→Zdc l≤200000*l.length:=by
  intro l
  induction l with
  |nil=>exact fun _=>XaT 0
  |cons x l R=>
   intro j
   have h1:=R fun y U=>j y (Xai _ U)
   have h2:=j x Xah
   rw[show Zdc (x::l)=x.2+Zdc l from rfl,Xap]
   omega
 have h2:=J (g.take k) fun x j=>(C.2 x (XaH j)).2.2.2
 have h3:(g.take k).length≤6:=by rw[Xas];have:=C.1;omega
 exact⟨h.1,by have:=h.2.1;omega⟩
theorem Zsn {n:Net} {i k:Nat} {g:List Go2} {x:Go2} (h:g[k]? =some x):ZbT n i (g.take (k+1))=ZeP (brA n i) (Zjw (x.1.getD i 0)) x.2 (ZbT n i (g.take k)):=by
 rw[List.take_add_one,h]
 exact Zop n i _ x
theorem ZyQ (n:Net) (g:List Go2) (hg:gOK n g) (x:Br) (hx:Zz9 x) (i:Nat) (hi:i<n.brs.length) (hb:brA n i=x) (U:List Int) (O A:List Bool) (lU:U.length=n.brs.length) (lO:O.length=n.brs.length) (lA:A.length=n.brs.length) (hu:U[i]? =some 0) (ho:O[i]? =some false) (ha:A[i]? =some false):
 LoopOK Tryz.prog Zao 0 ⟨9,0,111⟩ (Za4 Tryz.f9 7) (zM n (gF g) (gT g) i 0) (hR U O A x)
 (fun e tm hp=>e= .exit 2∧Ent 0 tm hp (zR n (gF g) (gT g) i) [.row IC (U.set i (ZbT n i g).2.1) true, .row .b (O.set i (ZbT n i g).2.2) true, .row .b (A.set i (gtQ (ZbT n i g).1 (lim x))) true]):=by
 have hl:=hx.1
 refine Zaw Zag rfl (zM n (gF g) (gT g) i) (fun k=>hR (U.set i (ZbT n i (g.take k)).2.1) (O.set i (ZbT n i (g.take k)).2.2) (A.set i (gtQ (ZbT n i (g.take k)).1 (lim x))) x) (fun k=>k≤g.length) (fun k=>g.length-k) ?_ 0 (Xao _) ?_
 case refine_2=>
  show Ent 0 _ _ _ (hR (U.set i 0) (O.set i false) (A.set i (gtQ 0 (lim x))) x)
  rw[Zon hl,Zds hu,Zds ho,Zds ha]
  exact ZaJ
 intro k hk
 have lg:(gF g).length=g.length:=Xa0 _
 cases h1:decide ((k:Int)<(g.length:Int))with
 |false=>
  have e:k=g.length:=by have:=of_decide_eq_false h1;omega
  subst e
  have J:decide ((g.length:Int)<((gF g).length:Int))=false:=by rw[lg];exact h1
  rw[XaC]
  refine Zae ?_
  refine Zac ?_
  refine Zaf ?_
  refine Xaa (fun h=>by first|(cases h;done)|exact(nf h J).elim) (fun _=> ?_)
  exact⟨rfl,Za6 [0,1,2] rfl ⟨rfl,rfl,rfl,trivial⟩ ⟨rfl,rfl,rfl,rfl,rfl,rfl,rfl,rfl,trivial⟩⟩
 |true=>
  have ad:k<g.length:=by have:=of_decide_eq_true h1;omega
  have J:decide ((k:Int)<((gF g).length:Int))=true:=by rw[lg];exact h1
  obtain⟨y,C,_⟩:=ZfA ad
  obtain⟨y1,y2,y3,y4⟩:=hg.2 y (XaI C)
  have gf:(gF g)[(k:Int).toNat]? =some (y.1.map Zc0):=by rw[Xad,gF,Xa2,C];rfl
  have gt:(gT g)[(k:Int).toNat]? =some y.2:=by rw[Xad,gT,Xa2,C];rfl
  have j:=Zsn (n:=n) (i:=i) C
  have I:=Zwi hg (by rw[hb];exact hl) (i:=i) k
  have R:i<y.1.length:=by omega
  have gp:(y.1.map Zc0)[(i:Int).toNat]? =some (Zc0 y.1[i]):=by rw[Xad,Xa2,Xac R];rfl
  have aa:=y2 _ (Xax R)
  rw[hb,Xa1,Xac R,Xby]at j
  generalize y.1[i]=q at gp aa j
  have hA:=Zvl q (by decide) (Zox aa)
  have ab:=ZuK aa
  generalize Zjw q=f at hA ab j
  obtain⟨s,hs⟩: ∃s:Nat,y.2=(s:Int):=⟨y.2.toNat,by omega⟩
  rw[hs]at gt j y3 y4
  obtain⟨hW,hC⟩:=ZtM f ab (lim x) hx.1 hx.2.1
  have ci:=cin hi
  have w1:=congrArg (fun x=>some (SV.v (.i .i64) x)) (Zca (k:=k) (by have:=hg.1;omega))
  rw[show ZeP x f (s:Int) (ZbT n i (g.take k))=(f,itr (gtQ f (lim x)) (gtQ f (sho x)) (hol x) (ZbT n i (g.take k)).2.1 (ZbT n i (g.take k)).2.2 s)from by
   rw[Zxp x f s _ (by omega),ZeP];cases gtQ f (lim x)<;>rfl]at j
  have fin: ∀ {tm:TM} {hp:List SM},Ent 0 tm hp (zM n (gF g) (gT g) i (k+1)) (hR (U.set i (ZbT n i (g.take (k+1))).2.1) (O.set i (ZbT n i (g.take (k+1))).2.2) (A.set i (gtQ (ZbT n i (g.take (k+1))).1 (lim x))) x)→ZqS 0 (zM n (gF g) (gT g) i) (fun k=>hR (U.set i (ZbT n i (g.take k)).2.1) (O.set i (ZbT n i (g.take k)).2.2) (A.set i (gtQ (ZbT n i (g.take k)).1 (lim x))) x) (fun k=>k≤g.length) (fun k=>g.length-k) k (fun e tm hp=>e= .exit 2∧Ent 0 tm hp (zR n (gF g) (gT g) i) [.row IC (U.set i (ZbT n i g).2.1) true, .row .b (O.set i (ZbT n i g).2.2) true, .row .b (A.set i (gtQ (ZbT n i g).1 (lim x))) true]) .normal tm hp:=
   fun hE=>⟨k+1,ad,by show g.length-(k+1)<g.length-k;omega,hE⟩
  rw[j]at fin
  generalize ZbT n i (g.take k)=st at I fin j
  obtain⟨f0,u,o⟩:=st
  simp only at I fin
  have gA:(A.set i (gtQ f0 (lim x)))[0+(i:Int).toNat]? =some (gtQ f0 (lim x)):=ZAp (by omega)
  have ae:=ZA5 n (gF g) (gT g) x hx f ab i k hi (U.set i u) (O.set i o) (A.set i (gtQ f (lim x))) (by rw[XaN];exact lU) (by rw[XaN];exact lO) (gtQ f (lim x)) (gtQ f (sho x)) (XaK (by omega)) rfl u o (XaK (by omega)) (XaK (by omega)) I.1 I.2 s (by omega)
  rw[List.set_set,List.set_set]at ae
  refine Zae ?_
  refine Zac ?_
  refine Zaf ?_
  refine Xaa (fun _=> ?_) (fun h=>by first|(cases h;done)|exact(nf J h).elim)
  refine Zae ?_
  refine Zac ?_
  refine Zbb rfl (fun _=>rfl) (Xaj k) gf rfl rfl ?_
  iterate 3 refine Zac ?_
  refine Zaf ?_
  refine Zae ?_
  iterate 2 refine Zac ?_
  refine Zbb rfl (fun _=>rfl) (Xaj i) gp rfl rfl ?_
  refine Zac ?_
  refine Zad rfl ((hA).mono ?_)
  rintro _ rfl
  refine Zaa rfl rfl ?_
  refine Zac ?_
  refine Zaf ?_
  refine Zae ?_
  iterate 4 refine Zac ?_
  refine Zap rfl (fun _=>rfl) rfl rfl rfl ?_
  refine Zad rfl ((hW).mono ?_)
  rintro _ rfl
  refine Zaa rfl rfl ?_
  refine Zad rfl ((hC).mono ?_)
  rintro _ rfl
  refine Zaa rfl rfl ?_
  refine Zac ?_
  refine Zad rfl (ZaB rfl rfl rfl rfl rfl rfl rfl ci ?_)
  refine Zaa rfl rfl ?_
  refine Zad rfl (ZbQ rfl rfl rfl rfl rfl gA rfl rfl rfl ?_)
  refine ZaC rfl ?_
  refine Zaf ?_
  refine Zae ?_
  iterate 2 refine Zac ?_
  refine Zbb rfl (fun _=>rfl) (Xaj k) gt rfl rfl ?_
  iterate 2 refine Zac ?_
  refine Zaf ?_
  refine(ae.ent ?_).through ?_
  ·exact Za6 [0,1,2,3] rfl ⟨rfl,rfl,congrArg (fun l=>some (SM.row .b l true)) Zv4,rfl,trivial⟩ ⟨rfl,rfl,rfl,rfl,rfl,rfl,rfl,rfl,rfl,rfl,rfl,rfl,rfl,rfl,rfl,rfl,trivial⟩
  rintro _ tm hp ⟨rfl,hE⟩
  refine⟨_,_,hE, ?_⟩
  show wp _ _ _ _ _ _ _ _ _
  refine Zae ?_
  iterate 2 refine Zac ?_
  refine Zaf ?_
  exact fin (Za6 [0,1,2,3] rfl ⟨rfl,rfl,rfl,rfl,trivial⟩ ⟨rfl,rfl,rfl,rfl,w1,rfl,rfl,rfl,rfl,rfl,rfl,rfl,rfl,trivial⟩)
def rU (n:Net) (g:List Go2) (i:Nat):List Int:=rg n.brs.length fun j=>if j<i then(ZbT n j g).2.1 else 0
def rO (n:Net) (g:List Go2) (i:Nat):List Bool:=rg n.brs.length fun j=>if j<i then(ZbT n j g).2.2 else false
def rA (n:Net) (g:List Go2) (i:Nat):List Bool:=rg n.brs.length fun j=>if j<i then gtQ (ZbT n j g).1 (lim (brA n j))else false
theorem ZtS {α:Type} {N i:Nat} {F:Nat→α} {z:α}:(rg N fun j=>if j<i then F j else z).set i (F i)=rg N fun j=>if j<i+1 then F j else z:=
 ZvU (if_pos (Nat.lt_succ_self i)) fun j C=>by
  by_cases h:j<i
  ·rw[if_pos h,if_pos (by omega)]
  ·rw[if_neg h,if_neg (by omega)]
theorem ZxS {α:Type} {N i:Nat} {F:Nat→α} {z:α} (h:i<N):(rg N fun j=>if j<i then F j else z)[i]? =some z:=by
 rw[Zh0 h,if_neg (Nat.lt_irrefl i)]
theorem ZsG (n:Net) (hf:Fine n) (g:List Go2) (hg:gOK n g):ImpOK Tryz.prog Zao 9 [.agg (Zdo n), .v (.l (.l .s)) (gF g), .v (.l IC) (gT g)] (fun V hp sf=>V= .tup [.ref 0 0 n.brs.length none, .ref 1 0 n.brs.length none, .ref 2 0 n.brs.length none]∧hp=[.row IC (rU n g n.brs.length) true, .row .b (rO n g n.brs.length) true, .row .b (rA n g n.brs.length) true]∧sf=true):=by
 refine ZbR (fn:=Tryz.f9) (code:=Zbn Tryz.f9) Zag (by kernel_rfl) Tryz.func9 (by kernel_rfl) (Xal (by kernel_rfl)) ?_
 obtain⟨_,_,hN,_⟩:=Zev hf
 have aa:0≤(n.brs.length:Int)∧(n.brs.length:Int)≤(n.brs.length:Int)∧(8:Int)*(n.brs.length:Int)≤281474976710656∧(n.brs.length:Int)<9223372036854775808:=by omega
 have I:0≤(n.brs.length:Int)∧(n.brs.length:Int)≤(n.brs.length:Int)∧(1:Int)*(n.brs.length:Int)≤281474976710656∧(n.brs.length:Int)<9223372036854775808:=by omega
 refine Zae ?_
 refine ZbB ?_
 iterate 3 refine Zac ?_
 refine Zaf ?_
 refine Zae ?_
 refine Zac ?_
 refine Zap rfl (fun _=>rfl) rfl rfl rfl ?_
 iterate 2 refine Zac ?_
 refine Zaf ?_
 refine Zae ?_
 refine Zac ?_
 refine Zad rfl (Xaa aa ?_)
 refine Zaa rfl rfl ?_
 refine Zac ?_
 refine Zad rfl (Xaa I ?_)
 refine Zaa rfl rfl ?_
 refine Zac ?_
 refine Zad rfl (Xaa I ?_)
 refine Zaa rfl rfl ?_
 iterate 3 refine Zac ?_
 refine Zaf ?_
 refine Zae ?_
 refine Zac ?_
 refine Zap rfl (fun _=>rfl) rfl rfl rfl ?_
 iterate 2 refine Zac ?_
 refine Zaf ?_
 refine Zaw Zag rfl (zR n (gF g) (gT g)) (fun i=> [.row IC (rU n g i) true, .row .b (rO n g i) true, .row .b (rA n g i) true]) (fun i=>i≤n.brs.length) (fun i=>n.brs.length-i) ?_ 0 (Xao _) ?_
 case refine_2=>
  have e1:List.replicate n.brs.length (0:Int)=rU n g 0:=Zcf
  have e2:List.replicate n.brs.length false=rO n g 0:=Zcf
  have e3:List.replicate n.brs.length false=rA n g 0:=Zcf
  exact Za6 [1,2,3] rfl ⟨congrArg (fun l=>some (SM.row IC l true)) e1,congrArg (fun l=>some (SM.row .b l true)) e2,congrArg (fun l=>some (SM.row .b l true)) e3,trivial⟩ ⟨rfl,rfl,rfl,rfl,rfl,rfl,rfl,rfl,trivial⟩
 intro i hi
 cases U:decide ((i:Int)<(n.brs.length:Int))with
 |false=>
  have e:i=n.brs.length:=by have:=of_decide_eq_false U;omega
  subst e
  refine Zae ?_
  refine Zac ?_
  refine Zaf ?_
  refine brF U ?_
  show wp _ _ _ _ _ _ _ _ _
  refine Zae ?_
  iterate 6 refine Zac ?_
  refine Zaf ?_
  refine⟨.tup [.ref 0 0 n.brs.length none, .ref 1 0 n.brs.length none, .ref 2 0 n.brs.length none],[.row IC (rU n g n.brs.length) true, .row .b (rO n g n.brs.length) true, .row .b (rA n g n.brs.length) true], ?_,rfl,rfl,rfl,rfl⟩
  exact Za6 [0,1,2] rfl ⟨rfl,rfl,rfl,trivial⟩ ⟨rfl,rfl,rfl,trivial⟩
 |true=>
  have C:i<n.brs.length:=by have:=of_decide_eq_true U;omega
  obtain⟨x,J,gx⟩:=ZfA C
  have hb:=ZiK J
  have hx:=ZqG hf (XaI J)
  have w1:=congrArg (fun x=>some (SV.v (.i .i64) x)) (Zca (k:=i) (by omega))
  have R:=ZyQ n g hg x hx i C hb (rU n g i) (rO n g i) (rA n g i) ZdC ZdC ZdC (ZxS C) (ZxS C) (ZxS C)
  have eA:=ZtS (N:=n.brs.length) (i:=i) (F:=fun j=>gtQ (ZbT n j g).1 (lim (brA n j))) (z:=false)
  simp only[hb]at eA
  refine Zae ?_
  refine Zac ?_
  refine Zaf ?_
  refine brT U ?_
  refine Zae ?_
  refine Zac ?_
  refine Zbb rfl (fun _=>rfl) (Xaj i) gx rfl rfl ?_
  refine Zac ?_
  refine ZbB ?_
  refine Zac ?_
  refine Zad rfl (ZaP rfl rfl rfl rfl rfl rfl rfl rfl ?_)
  refine ZaC rfl ?_
  refine Zaf ?_
  refine Zae ?_
  iterate 3 refine Zac ?_
  refine Zaf ?_
  refine(R.ent ?_).through ?_
  ·exact Za6 [0,1,2,3] rfl ⟨rfl,rfl,rfl,rfl,trivial⟩ ⟨rfl,rfl,rfl,rfl,rfl,rfl,rfl,rfl,rfl,rfl,rfl,rfl,rfl,trivial⟩
  rintro _ tm hp ⟨rfl,hE⟩
  refine⟨_,_,hE, ?_⟩
  show wp _ _ _ _ _ _ _ _ _
  refine Zae ?_
  iterate 2 refine Zac ?_
  refine Zaf ?_
  refine⟨i+1,C,by show n.brs.length-(i+1)<n.brs.length-i;omega, ?_⟩
  exact Za6 [0,1,2] rfl ⟨congrArg (fun l=>some (SM.row IC l true)) ZtS,congrArg (fun l=>some (SM.row .b l true)) ZtS,congrArg (fun l=>some (SM.row .b l true)) eA,trivial⟩ ⟨rfl,rfl,rfl,rfl,rfl,rfl,rfl,w1,trivial⟩
end Go.Proofs.YtapbiodcncnnfaaGreatDoor
namespace Go.Am
theorem Zcn {α β:Type} {P:Program} (f:α→Sem β): ∀m:Sem α,ZaY P (m>>=f)=(ZaY P m).bind fun a=>ZaY P (f a)
 | .pure _=>rfl
 | .program k=>Zcn f (k P)
 | .load .. | .store .. | .new .. | .shape .. | .freeze .. | .frozen .. | .getObj .. | .setObj .. | .choose .. | .sys .. | .mark .. | .halt .. =>rfl
section
variable {P : Program} {t : TypeId}
theorem ZoZ {d:TypeDesc} (h:P.underlying t=some d):ZaY P (underlying t)=some d:=by
 unfold underlying
 rw[Zcn]
 show ZaY P (match P.underlying t with|some d=>pure d|none=>stuck "no such type")=_
 rw[h]
 rfl
theorem ZkX {d:TypeDesc} (h:P.underlying t=some d) (j: ∀C,d≠ .struct C) (he: ∀n e,d≠ .array n e) {cs:Array Value} {o:Nat} {v:Value} (I:cs[o]? =some v):ZaY P (part t cs o)=some v:=by
 have J:ZaY P (isAgg t)=some false:=by
  unfold isAgg
  rw[Zcn,ZoZ h]
  cases d<;>first|rfl|exact absurd rfl (j _)|exact absurd rfl (he _ _)
 unfold part
 rw[Zcn,J,I]
 rfl
theorem ZzN (d:Nat) (h:P.underlying t=some .string) (a b:ByteArray):ZaY P (Op.equalIn (d+1) t (.string a) (.string b))=some (a==b):=by
 rw[Op.equalIn,Zcn,ZoZ h]
 rfl
theorem Zws (d:Nat) {k:IntKind} (h:P.underlying t=some (.int k)) (j:IntKind) (a b:Int):ZaY P (Op.equalIn (d+1) t (.int j a) (.int j b))=some (a==b):=by
 rw[Op.equalIn,Zcn,ZoZ h]
 show ZaY P (if j=j then pure (a==b)else stuck "==: kinds differ")=_
 rw[if_pos rfl]
 rfl
theorem Zs8 (d:Nat) (xs j:Array Value) (I:P.underlying t=some (.struct (P.fieldsOf t))) (hp:P.stoodInHeld t=false):
 ZaY P (Op.equalIn (d+1) t (.agg xs) (.agg j))=ZaY P (Op.eqFields d xs j (P.fieldsOf t).toList):=by
 rw[Op.equalIn,Zcn,ZoZ I]
 simp only[Xab,Zcn]
 have C:ZaY P program=some P:=rfl
 simp only[C,Xab,hp,XaG,if_false]
 rw[←Array.forIn_toList]
 generalize(P.fieldsOf t).toList=J
 clear I
 induction J with
 |nil=>rfl
 |cons f J R=>
  simp only[List.forIn_cons,Op.eqFields,Zcn]
  split
  ·simp only[Zcn]
   cases ZaY P (part f.type xs f.offset)with
   |none=>rfl
   |some a=>
    simp only[Xab]
    cases ZaY P (part f.type j f.offset)with
    |none=>rfl
    |some b=>
     simp only[Xab]
     cases ZaY P (Op.equalIn d f.type a b)with
     |none=>rfl
     |some r=>
      simp only[Xab]
      cases r with
      |false=>rfl
      |true=>exact(Zcn _ _).symm.trans R
  ·exact(Zcn _ _).symm.trans R
theorem ZyW {t1 t2:TypeId} {k:IntKind} (hf:P.underlying t=some (.struct (P.fieldsOf t))) (hg:P.eqGuardType P.depth t=false) (hp:P.stoodInHeld t=false) (I:((P.fieldsOf t).toList.map fun f=>(f.name== "_",f.type,f.offset))=[(false,t1,0),(false,t2,1)]) (C:P.underlying t1=some .string) (j:P.underlying t2=some (.int k))
 (a b:List UInt8) (m n:Int):Zp1 P t [.str ⟨a.toArray⟩, .int k m] [.str ⟨b.toArray⟩, .int k n]=some (a==b&&decide (m=n)):=by
 obtain⟨f1,f2,J,R,U⟩: ∃f1 f2,(P.fieldsOf t).toList=[f1,f2]∧(f1.type=t1∧f1.offset=0∧f1.name≠ "_")∧(f2.type=t2∧f2.offset=1∧f2.name≠ "_"):=by
  generalize(P.fieldsOf t).toList=l at I
  rcases l with _|⟨f1,_|⟨f2,_|⟨f3,r⟩⟩⟩
  ·cases I
  ·simp at I
  ·simp only[Xbb,Xa3,List.cons.injEq,Prod.mk.injEq,and_true]at I
   obtain⟨⟨a1,a2,a3⟩,b1,b2,b3⟩:=I
   exact⟨f1,f2,rfl,⟨a2,a3,by simpa using a1⟩,⟨b2,b3,by simpa using b1⟩⟩
  ·simp at I
 have e1:ZaY P (part t1 #[.string ⟨a.toArray⟩, .int k m] 0)=some (.string ⟨a.toArray⟩):=ZkX C (by simp) (by simp) rfl
 have e2:ZaY P (part t1 #[.string ⟨b.toArray⟩, .int k n] 0)=some (.string ⟨b.toArray⟩):=ZkX C (by simp) (by simp) rfl
 have e3:ZaY P (part t2 #[.string ⟨a.toArray⟩, .int k m] 1)=some (.int k m):=ZkX j (by simp) (by simp) rfl
 have e4:ZaY P (part t2 #[.string ⟨b.toArray⟩, .int k n] 1)=some (.int k n):=ZkX j (by simp) (by simp) rfl
 have hs:((⟨a.toArray⟩:ByteArray)==⟨b.toArray⟩)=(a==b):=by
  show(a.toArray==b.toArray)=(a==b)
  simp
 have hi:(m==n)=decide (m=n):=rfl
 show(if P.eqGuardType P.depth t=true then none else ZaY P (Op.equal t (.agg #[.string ⟨a.toArray⟩, .int k m]) (.agg #[.string ⟨b.toArray⟩, .int k n])))=_
 rw[hg,if_neg (by simp)]
 show ZaY P (Op.equalIn (9999+1) t _ _)=_
 rw[Zs8 9999 _ _ hf hp,J]
 show ZaY P (Op.eqFields 9999 _ _ [f1,f2])=_
 simp only[Op.eqFields,R.1,R.2.1,U.1,U.2.1,ne_eq,R.2.2,U.2.2,not_false_eq_true,if_true,Zcn,e1,e2,e3,e4,Xab,ZzN 9998 C,Zws 9998 j,hs,hi]
 cases a==b with
 |false=>rfl
 |true=>
  simp only[Bool.not_true,XaG,if_false,Zcn,e3,e4,Xab,Zws 9998 j,hi]
  cases decide (m=n)<;>rfl
end
end Go.Am
namespace Go.Proofs.YtapbiodcncnnfaaGreatDoor
open Go.Am Go.Tx Ne Dv Go.Lib
theorem ZkN (a b:Txt) (m n:Int):Zp1 Tryz.prog 52 [.str ⟨a.toArray⟩, .int .i64 m] [.str ⟨b.toArray⟩, .int .i64 n]=some (a==b&&decide (m=n)):=
 ZyW (t1:=9) (t2:=3) (by kernel_rfl) (by kernel_rfl) (by kernel_rfl) (by kernel_rfl) (by kernel_rfl) (by kernel_rfl) a b m n
theorem eqN {r:Bool} {k:SV→Prop} (h:k (.v .b (!r))):eqB .neq r k:=h
def zK (n:Net) (j:List Int) (C:List (List Txt)) (g:List Go2) (i:Nat):TM:=[(2, .v (.l IC) j),(3, .ptr 0 0 0),(7, .ptr 1 0 0),(10, .ref 6 0 g.length none),(11, .ref 7 0 g.length none),(12, .v IC (Zdc g)),(56, .v (.l (.l .s)) C),(57,nt C.length),(58,nt i)]
def hK (n:Net) (g:List Go2):List SM:=hpW n (fun j=>ZbT n j g) (Zdc g) (gF g) (gT g)
def zP (n:Net) (j:List Int) (C:List (List Txt)) (g:List Go2) (i:Nat) (ev:Int) (m p k:Nat):TM:=(15, .ref 8 0 m none)::(16, .v IC ev)::(22, .ref p 0 k none)::zK n j C g i
def zQ (n:Net) (C:List Int) (I:List (List Txt)) (g:List Go2) (i:Nat) (ev:Int) (m j:Nat):TM:=(18, .ref 9 0 n.brs.length none)::(19, .ref 10 0 n.brs.length none)::(20, .ref 11 0 n.brs.length none)::(21, .ref 12 0 n.brs.length none)::(167, .v (.l Zhx) n.brs)::(168,nt n.brs.length)::(169,nt j)::zP n C I g i ev m 13 (ovN n (fun j=>ZbT n j g) j).length
def hQ (n:Net) (g:List Go2) (C:List Txt) (j:Nat):List SM:=hK n g++ [.row .s C true, .row IC (rU n g n.brs.length) true, .row .b (rO n g n.brs.length) true, .row .b (rA n g n.brs.length) true, .row ZqY (lfN n (fun j=>ZbT n j g) n.brs.length) true, .row .s (ovN n (fun j=>ZbT n j g) j) true]
theorem Zzf (n:Net) (hf:Fine n) (I:List Int) (fl:List (List Txt)) (g:List Go2) (hg:gOK n g) (i:Nat) (ev:Int) (ov:List Txt) (m:Nat):
 LoopOK Tryz.prog Zao 0 ⟨3,0,221⟩ (Za4 Tryz.f3 32) (zQ n I fl g i ev m 0) (hQ n g ov 0)
 (fun e tm hp=>e= .exit 2∧Ent 0 tm hp (zP n I fl g i ev m 9 (ovN n (fun j=>ZbT n j g) n.brs.length).length) (hK n g++ [.row .s ov true, .row .s (ovN n (fun j=>ZbT n j g) n.brs.length) true])):=by
 obtain⟨_,_,hN,_⟩:=Zev hf
 refine Zaw Zag rfl (zQ n I fl g i ev m) (hQ n g ov) (fun j=>j≤n.brs.length) (fun j=>n.brs.length-j) ?_ 0 (Xao _) ZaJ
 intro j hj
 cases h1:decide ((j:Int)<(n.brs.length:Int))with
 |false=>
  have e:j=n.brs.length:=by have:=of_decide_eq_false h1;omega
  subst e
  refine Zae ?_
  refine Zac ?_
  refine Zaf ?_
  refine brF h1 ?_
  exact⟨rfl,Za6 [0,1,2,3,4,5,6,7,8,13] rfl ⟨rfl,rfl,rfl,rfl,rfl,rfl,rfl,rfl,rfl,rfl,trivial⟩ ⟨rfl,rfl,rfl,rfl,rfl,rfl,rfl,rfl,rfl,rfl,rfl,rfl,trivial⟩⟩
 |true=>
  have C:j<n.brs.length:=by have:=of_decide_eq_true h1;omega
  obtain⟨x,aa,gx⟩:=ZfA C
  have hb:=ZiK aa
  obtain⟨b1,b2,b3,b4,b5,b6⟩:=ZqG hf (XaI aa)
  have ci:=cin C
  have w1:=congrArg (fun x=>some (SV.v (.i .i64) x)) (Zca (k:=j) (by omega))
  have J:=ZpA n (fun j=>ZbT n j g) j
  rw[hb]at J
  have af:=Zna n (fun j=>ZbT n j g) j
  have R:=Zwi (i:=j) hg (by rw[hb];exact b1) g.length
  rw[XaC]at R
  have U:=(Zk8 (n:=n) (j:=j) (by rw[hb];exact b1) g fun x hx=>by have:=(hg.2 x hx).2.2.1;omega).1
  have gU:(rU n g n.brs.length)[0+(j:Int).toNat]? =some (ZbT n j g).2.1:=by rw[Xaq,Xad,rU,Zh0 C,if_pos C]
  have gO:(rO n g n.brs.length)[0+(j:Int).toNat]? =some (ZbT n j g).2.2:=by rw[Xaq,Xad,rO,Zh0 C,if_pos C]
  have gA:(rA n g n.brs.length)[0+(j:Int).toNat]? =some (gtQ (ZbT n j g).1 (lim x)):=by rw[Xaq,Xad,rA,Zh0 C,if_pos C,hb]
  have gL:(lfN n (fun j=>ZbT n j g) n.brs.length)[0+(j:Int).toNat]? =some (x.1,Zil x (ZbT n j g)):=by rw[Xaq,Xad,lfN,Zh0 C,hb]
  rw[hb]at U
  generalize ag:ZbT n j g=st at gU gO gA gL J R U
  obtain⟨f0,u,o⟩:=st
  obtain⟨_,_,ab,ad⟩:=U
  simp only at gU gO gA gL J R ab ad
  have hle:Zil x (f0,u,o)=bif o then 0 else bif gtQ f0 (lim x)then hol x-u else-1:=rfl
  rw[hle]at gL
  refine Zae ?_
  refine Zac ?_
  refine Zaf ?_
  refine brT h1 ?_
  refine Zae ?_
  refine Zac ?_
  refine Zbb rfl (fun _=>rfl) (Xaj j) gx rfl rfl ?_
  refine Zac ?_
  refine ZbB ?_
  refine Zac ?_
  refine Zad rfl (ZaP rfl rfl rfl rfl rfl rfl rfl rfl ?_)
  refine ZaC rfl ?_
  refine Zaf ?_
  refine Zae ?_
  refine Zac ?_
  refine Zaf ?_
  refine Zae ?_
  iterate 2 refine Zac ?_
  refine Zad rfl (ZaB rfl rfl rfl rfl rfl rfl rfl ci ?_)
  refine Zaa rfl rfl ?_
  refine Zad rfl (ZaN rfl rfl rfl gA rfl ?_)
  refine Zaa rfl rfl ?_
  refine Zaf ?_
  cases h3:gtQ f0 (lim x)with
  |false=>
   have ho:=ad h3
   have ho:o=false:=congrArg Prod.snd ho
   subst ho
   have hr:(!(x.1==x.1&&decide (((bif false then 0 else bif gtQ f0 (lim x)then hol x-u else-1):Int)= -1)))=false:=by rw[h3];simp
   rw[cond_false,XaF]at J
   refine Xaa (fun h=>by cases h) (fun _=> ?_)
   refine Zae ?_
   iterate 2 refine Zac ?_
   refine Zad rfl (ZaB rfl rfl rfl rfl rfl rfl rfl ci ?_)
   refine Zaa rfl rfl ?_
   refine Zad rfl (ZaN rfl rfl rfl gO rfl ?_)
   refine Zaa rfl rfl ?_
   refine Zaf ?_
   refine Xaa (fun h=>by cases h) (fun _=> ?_)
   refine Zae ?_
   iterate 2 refine Zac ?_
   refine Zad rfl (ZaB rfl rfl rfl rfl rfl rfl rfl ci ?_)
   refine Zaa rfl rfl ?_
   refine Zad rfl (ZaN rfl rfl rfl gL rfl ?_)
   refine Zaa rfl rfl ?_
   refine Zac ?_
   refine Zap rfl (fun _=>rfl) rfl rfl rfl ?_
   iterate 2 refine Zac ?_
   refine Zad rfl (Exists.intro _ (Xaa (ZkN _ _ _ _) (eqN ?_)))
   refine Zaa rfl rfl ?_
   refine Zaf ?_
   refine brF hr ?_
   refine Zae ?_
   iterate 2 refine Zac ?_
   refine Zaf ?_
   refine⟨j+1,C,by show n.brs.length-(j+1)<n.brs.length-j;omega, ?_⟩
   unfold zQ hQ
   rw[J]
   exact Za6 [0,1,2,3,4,5,6,7,8,9,10,11,12,13] rfl ⟨rfl,rfl,rfl,rfl,rfl,rfl,rfl,rfl,rfl,rfl,rfl,rfl,rfl,rfl,trivial⟩ ⟨rfl,rfl,rfl,rfl,rfl,rfl,w1,rfl,rfl,rfl,rfl,rfl,rfl,rfl,rfl,rfl,rfl,rfl,rfl,trivial⟩
  |true=>
   refine Xaa (fun _=> ?_) (fun h=>by cases h)
   refine Zae ?_
   refine Zac ?_
   refine Zap rfl (fun _=>rfl) rfl rfl rfl ?_
   iterate 2 refine Zac ?_
   refine Zad rfl (ZaB rfl rfl rfl rfl rfl rfl rfl ci ?_)
   refine Zaa rfl rfl ?_
   refine Zad rfl (ZaN rfl rfl rfl gU rfl ?_)
   refine Zaa rfl rfl ?_
   iterate 3 refine Zac ?_
   refine Zaf ?_
   have hw:IntKind.i64.wrap (hol x-u)=hol x-u:=Zan (by omega) (by omega)
   cases o with
   |false=>
    have hu:=ab rfl h3
    have ae:(if IntKind.i64.wrap (hol x-u)>0 then IntKind.i64.wrap (hol x-u)else 0)=hol x-u:=by rw[hw];split<;>omega
    have hr:(!(x.1==x.1&&decide (((bif false then 0 else bif gtQ f0 (lim x)then hol x-u else-1):Int)=(if IntKind.i64.wrap (hol x-u)>0 then IntKind.i64.wrap (hol x-u)else 0))))=false:=by rw[ae,h3];simp
    rw[cond_false,XaF]at J
    refine Zae ?_
    iterate 2 refine Zac ?_
    refine Zad rfl (ZaB rfl rfl rfl rfl rfl rfl rfl ci ?_)
    refine Zaa rfl rfl ?_
    refine Zad rfl (ZaN rfl rfl rfl gO rfl ?_)
    refine Zaa rfl rfl ?_
    refine Zaf ?_
    refine Xaa (fun h=>by cases h) (fun _=> ?_)
    refine Zae ?_
    iterate 2 refine Zac ?_
    refine Zad rfl (ZaB rfl rfl rfl rfl rfl rfl rfl ci ?_)
    refine Zaa rfl rfl ?_
    refine Zad rfl (ZaN rfl rfl rfl gL rfl ?_)
    refine Zaa rfl rfl ?_
    refine Zac ?_
    refine Zap rfl (fun _=>rfl) rfl rfl rfl ?_
    iterate 2 refine Zac ?_
    refine Zad rfl (Exists.intro _ (Xaa (ZkN _ _ _ _) (eqN ?_)))
    refine Zaa rfl rfl ?_
    refine Zaf ?_
    refine brF hr ?_
    refine Zae ?_
    iterate 2 refine Zac ?_
    refine Zaf ?_
    refine⟨j+1,C,by show n.brs.length-(j+1)<n.brs.length-j;omega, ?_⟩
    unfold zQ hQ
    rw[J]
    exact Za6 [0,1,2,3,4,5,6,7,8,9,10,11,12,13] rfl ⟨rfl,rfl,rfl,rfl,rfl,rfl,rfl,rfl,rfl,rfl,rfl,rfl,rfl,rfl,trivial⟩ ⟨rfl,rfl,rfl,rfl,rfl,rfl,w1,rfl,rfl,rfl,rfl,rfl,rfl,rfl,rfl,rfl,rfl,rfl,rfl,trivial⟩
   |true=>
    have hr:(!(x.1==x.1&&decide (((bif true then 0 else bif gtQ f0 (lim x)then hol x-u else-1):Int)=0)))=false:=by simp
    have hz:((ovN n (fun j=>ZbT n j g) j).length+1)*16≤140737488355328:=by omega
    rw[cond_true]at J
    refine Zae ?_
    iterate 2 refine Zac ?_
    refine Zad rfl (ZaB rfl rfl rfl rfl rfl rfl rfl ci ?_)
    refine Zaa rfl rfl ?_
    refine Zad rfl (ZaN rfl rfl rfl gO rfl ?_)
    refine Zaa rfl rfl ?_
    refine Zaf ?_
    refine Xaa (fun _=> ?_) (fun h=>by cases h)
    refine Zae ?_
    iterate 2 refine Zac ?_
    refine Zap rfl (fun _=>rfl) rfl rfl rfl ?_
    refine ZbB ?_
    refine Zad rfl (Ze1 rfl rfl rfl rfl rfl rfl rfl rfl rfl rfl rfl rfl hz ?_)
    refine Zaa rfl rfl ?_
    iterate 2 refine Zac ?_
    refine Zaf ?_
    refine Zae ?_
    iterate 2 refine Zac ?_
    refine Zad rfl (ZaB rfl rfl rfl rfl rfl rfl rfl ci ?_)
    refine Zaa rfl rfl ?_
    refine Zad rfl (ZaN rfl rfl rfl gL rfl ?_)
    refine Zaa rfl rfl ?_
    refine Zac ?_
    refine Zap rfl (fun _=>rfl) rfl rfl rfl ?_
    iterate 2 refine Zac ?_
    refine Zad rfl (Exists.intro _ (Xaa (ZkN _ _ _ _) (eqN ?_)))
    refine Zaa rfl rfl ?_
    refine Zaf ?_
    refine brF hr ?_
    refine Zae ?_
    iterate 2 refine Zac ?_
    refine Zaf ?_
    refine⟨j+1,C,by show n.brs.length-(j+1)<n.brs.length-j;omega, ?_⟩
    unfold zQ hQ
    rw[J]
    have er:some (SV.ref 16 0 ((ovN n (fun j=>ZbT n j g) j).length+1) none)=some (SV.ref 16 0 (ovN n (fun j=>ZbT n j g) j++ [x.1]).length none):=by rw[Xaw];rfl
    exact Za6 [0,1,2,3,4,5,6,7,8,9,10,11,12,16] rfl ⟨rfl,rfl,rfl,rfl,rfl,rfl,rfl,rfl,rfl,rfl,rfl,rfl,rfl,rfl,trivial⟩ ⟨rfl,rfl,rfl,rfl,rfl,rfl,w1,rfl,rfl,er,rfl,rfl,rfl,rfl,rfl,rfl,rfl,rfl,rfl,trivial⟩
open Go.Am Go.Tx Ne
theorem ZxJ (a b:List Txt) (hl:a.length≤1000):PureOK Tryz.prog Zao 12 [.v (.l .s) a, .v (.l .s) b] (fun V=>V= .v .b (decide (a=b))):=by
 refine Zai Zag Tryz.func12 ?_
 cases J:decide ((a.length:Int)=(b.length:Int))with
 |false=>
  have U:(!decide ((a.length:Int)=(b.length:Int)))=true:=by rw[J];rfl
  have aa:a≠b:=fun e=>of_decide_eq_false J (by rw[e])
  refine Zae ?_
  refine Zac ?_
  refine Zaf ?_
  refine Zae ?_
  iterate 5 refine Zac ?_
  refine Zaf ?_
  refine brT U ?_
  refine Zae ?_
  refine Zac ?_
  refine Zaf ?_
  exact congrArg (fun x=>SV.v .b x) (decide_eq_false aa).symm
 |true=>
  have U:(!decide ((a.length:Int)=(b.length:Int)))=false:=by rw[J];rfl
  have hlen:a.length=b.length:=by have:=of_decide_eq_true J;omega
  refine Zae ?_
  refine Zac ?_
  refine Zaf ?_
  refine Zae ?_
  iterate 5 refine Zac ?_
  refine Zaf ?_
  refine brF U ?_
  refine Zae ?_
  iterate 3 refine Zac ?_
  refine Zaf ?_
  refine Zaw Zag rfl (fun(i:Nat)=> [(0, .v (.l .s) a),(1, .v (.l .s) b),(12,nt a.length),(13,nt i)]) (fun _=> []) (fun i=>i≤a.length∧a.take i=b.take i) (fun i=>a.length-i) ?_ 0 ⟨Xao _,rfl⟩ (Zaq ⟨rfl,rfl,rfl,rfl,trivial⟩)
  rintro i ⟨hi,he⟩
  cases R:decide ((i:Int)<(a.length:Int))with
  |false=>
   have e:i=a.length:=by have:=of_decide_eq_false R;omega
   have ab:a=b:=by
    rw[e,XaC,hlen,XaC]at he
    exact he
   refine Zae ?_
   refine Zac ?_
   refine Zaf ?_
   refine brF R ?_
   refine Zae ?_
   refine Zac ?_
   refine Zaf ?_
   exact congrArg (fun x=>SV.v .b x) (decide_eq_true ab).symm
  |true=>
   have j:i<a.length:=by have:=of_decide_eq_true R;omega
   have C:i<b.length:=by omega
   have ga:a[(i:Int).toNat]? =some a[i]:=by rw[Xad];exact Xac j
   have gb:b[(i:Int).toNat]? =some b[i]:=by rw[Xad];exact Xac C
   have ta:a.take (i+1)=a.take i++ [a[i]]:=by rw[List.take_add_one,Xac j];rfl
   have tb:b.take (i+1)=b.take i++ [b[i]]:=by rw[List.take_add_one,Xac C];rfl
   have hd:a[i]≠b[i]→a≠b:=fun hn e=>hn (by subst e;rfl)
   obtain⟨x,ex⟩: ∃x,a[i]=x:=⟨_,rfl⟩
   obtain⟨y,ey⟩: ∃y,b[i]=y:=⟨_,rfl⟩
   rw[ex]at ga ta hd
   rw[ey]at gb tb hd
   refine Zae ?_
   refine Zac ?_
   refine Zaf ?_
   refine brT R ?_
   refine Zae ?_
   iterate 2 refine Zac ?_
   refine Zaf ?_
   cases I:(x==y)with
   |true=>
    have hb:(!(x==y))=false:=by rw[I];rfl
    refine Zae ?_
    iterate 2 refine Zac ?_
    refine Zbb rfl (fun _=>rfl) (Xaj i) ga rfl rfl ?_
    iterate 3 refine Zac ?_
    refine Zbb rfl (fun _=>rfl) (Xaj i) gb rfl rfl ?_
    iterate 2 refine Zac ?_
    refine Zaf ?_
    refine brF hb ?_
    refine Zae ?_
    iterate 2 refine Zac ?_
    refine Zaf ?_
    refine⟨i+1,⟨j,by rw[ta,tb,he,eq_of_beq I]⟩,by show a.length-(i+1)<a.length-i;omega, ?_⟩
    exact Zaq ⟨rfl,rfl,rfl,congrArg (fun x=>some (SV.v (.i .i64) x)) (Zca (by omega)),trivial⟩
   |false=>
    have hb:(!(x==y))=true:=by rw[I];rfl
    refine Zae ?_
    iterate 2 refine Zac ?_
    refine Zbb rfl (fun _=>rfl) (Xaj i) ga rfl rfl ?_
    iterate 3 refine Zac ?_
    refine Zbb rfl (fun _=>rfl) (Xaj i) gb rfl rfl ?_
    iterate 2 refine Zac ?_
    refine Zaf ?_
    refine brT hb ?_
    refine Zae ?_
    refine Zac ?_
    refine Zaf ?_
    refine ZaR ?_
    repeat (first|refine ZaF ?_|refine ZaG ?_|refine Zaz ?_)
    exact congrArg (fun x=>SV.v .b x) (decide_eq_false (hd fun e=>by rw[e]at I;simp at I)).symm
theorem Zrt (n:Net) (j:Fine n) (g:List Go2) (C:gOK n g):ImpOK Tryz.prog Zao 9 [.agg (Zdo n), .v (.l (.l .s)) (sub (gF g) 0 g.length), .v (.l IC) (sub (gT g) 0 g.length)] (fun V hp I=>V= .tup [.ref 0 0 n.brs.length none, .ref 1 0 n.brs.length none, .ref 2 0 n.brs.length none]∧hp=[.row IC (rU n g n.brs.length) true, .row .b (rO n g n.brs.length) true, .row .b (rA n g n.brs.length) true]∧I=true):=by
 rw[ZcE (show(gF g).length=_ from Xa0 _),ZcE (show(gT g).length=_ from Xa0 _)]
 exact ZsG n j g C
theorem Zw6 (l:List Txt) (j:l.length≤1000):PureOK Tryz.prog Zao 12 [.v (.l .s) (sub l 0 l.length), .v (.l .s) (sub l 0 l.length)] (fun V=>V= .v .b true):=by
 rw[ZcE rfl]
 refine(ZxJ l l j).mono ?_
 rintro _ rfl
 rw[decide_eq_true rfl]
abbrev cxL:Cx:=⟨3,0,221⟩
noncomputable def ZAl:Code→Code
 | .seq (.block _ b) _=>b
 |c=>c
noncomputable def ZwQ:Code:=ZAl (ZeN 2 (Za4 Tryz.f3 13))
def exR (n:Net) (g:List Go2) (j:List Txt):List SM:=[.row .s j true, .row IC (rU n g n.brs.length) true, .row .b (rO n g n.brs.length) true, .row .b (rA n g n.brs.length) true]
theorem Zyi {n:Net} {g:List Go2} (I:gOK n g) {j:Nat} (hj:j<n.brs.length):szQ (ZbT n j g).1 208:=by
 have J:szQ (0:Rat) 208:=Zma (Zn6 (n:=0) (by decide))
 have: ∀ (l:List Go2) (st:St),(∀x∈l,x.1.length=n.brs.length∧ ∀p∈x.1,Zkj p=true)→szQ st.1 208→szQ (l.foldl (fun st x=>ZeP (brA n j) (Zjw (x.1.getD j 0)) x.2 st) st).1 208:=by
  intro l
  induction l with
  |nil=>exact fun _ _ h=>h
  |cons x l R=>
   intro st C h
   refine R _ (fun y U=>C y (Xai _ U)) ?_
   obtain⟨h1,h2⟩:=C x Xah
   have hq:szQ (Zjw (x.1.getD j 0)) 208:=by
    rw[Xa1,Xac (by omega)]
    exact ZrA (h2 _ (Xax _))
   show szQ (ZeP (brA n j) (Zjw (x.1.getD j 0)) x.2 st).1 208
   rw[ZeP]
   cases gtQ (Zjw (x.1.getD j 0)) (lim (brA n j))<;>exact hq
 exact this g St0 (fun x C=>⟨(I.2 x C).1,(I.2 x C).2.1⟩) J
theorem ZoX (n:Net) (hf:Fine n) (C:List Int) (fl:List (List Txt)) (g:List Go2) (hg:gOK n g) (ht:Zdc g≤200000) (i:Nat) (ev:Int) (R:List Txt) (ab:ev=0→R=ovN n (fun j=>ZbT n j g) n.brs.length) {K:Ex→TM→List SM→Prop} (aa: ∀tm hp,Ent 0 tm hp (zK n C fl g i) (hK n g)→K .normal tm hp):
 CodeOK Tryz.prog Zao 0 cxL (ZeN 8 ZwQ) ((15, .ref 8 0 R.length none)::(16, .v IC ev)::zK n C fl g i) (hK n g++ [.row .s R true]) K:=by
 obtain⟨_,_,hN,_⟩:=Zev hf
 have hR:=Zrt n hf g hg
 have lF:0+g.length≤(gF g).length:=by rw[gF,Xa0];omega
 have lT:0+g.length≤(gT g).length:=by rw[gT,Xa0];omega
 have hL:=Zzs n hf (fun j=>ZbT n j g) (Zdc g) fun j hj=>by
  have h0:0≤lim (brA n j):=by
   obtain⟨x,gx,_⟩:=ZfA hj
   rw[ZiK gx]
   exact(ZqG hf (XaI gx)).1
  have h1:=(Zk8 h0 g fun x hx=>by have:=(hg.2 x hx).2.2.1;omega).1
  exact⟨Zyi hg hj,h1.1,by have:=h1.2.1;omega⟩
 have hT:=ZyD n (fun j=>ZbT n j g) (Zdc g)
 have hO:=Zv0 n hN (fun j=>ZbT n j g) (Zdc g)
 have J:(!decide ((n.brs.length:Int)=(n.brs.length:Int)))=false:=by simp
 have ad:(!decide (Zdc g=Zdc g))=false:=by simp
 have ae:=Zna n (fun j=>ZbT n j g) n.brs.length
 have U:=Zw6 (ovN n (fun j=>ZbT n j g) n.brs.length) (by omega)
 have I:0+(ovN n (fun j=>ZbT n j g) n.brs.length).length≤(ovN n (fun j=>ZbT n j g) n.brs.length).length:=by omega
 refine Zbs Zag ?_
 refine Zae ?_
 refine Zap rfl (fun _=>rfl) rfl rfl rfl ?_
 iterate 2 refine Zac ?_
 refine Zad rfl (Xaa lF (Xaa lT (hR.mono ?_)))
 rintro _ _ _ ⟨rfl,rfl,rfl⟩
 refine Zaa rfl rfl ?_
 iterate 7 refine Zac ?_
 refine Zaf ?_
 refine Zae ?_
 refine Zac ?_
 refine Zad rfl (Zez rfl rfl rfl rfl rfl (Zzd (n:=n) (S:=fun j=>ZbT n j g) (t:=Zdc g) (gl:=gF g) (tl:=gT g) (ex:=exR n g R) (hL.mono ?_)))
 rintro _ _ _ ⟨rfl,rfl,rfl⟩
 refine Zaa rfl rfl ?_
 refine Zac ?_
 refine Zaf ?_
 refine Zae ?_
 iterate 3 refine Zac ?_
 refine Zap rfl (fun _=>rfl) rfl rfl rfl ?_
 iterate 3 refine Zac ?_
 refine Zab J ?_
 refine Zam rfl rfl rfl J (Zne rfl rfl rfl rfl rfl rfl (Zzd (n:=n) (S:=fun j=>ZbT n j g) (t:=Zdc g) (gl:=gF g) (tl:=gT g) (ex:=exR n g R++ [.row ZqY (lfN n (fun j=>ZbT n j g) n.brs.length) true]) (hT.mono ?_)))
 rintro _ rfl
 refine Zaa rfl rfl ?_
 refine Zab J ?_
 refine Zab J ?_
 refine Zal J ?_
 refine Zaf ?_
 refine brF ad ?_
 refine Zae ?_
 refine Zac ?_
 refine Zaf ?_
 refine Zae ?_
 refine Zac ?_
 refine Zap rfl (fun _=>rfl) rfl rfl rfl ?_
 iterate 2 refine Zac ?_
 refine Zaf ?_
 refine((Zzf n hf C fl g hg i ev R R.length).ent ?_).through ?_
 ·refine(Zg6 (k:=22) (ct:= .s) (r:=(18, .ref 9 0 n.brs.length none)::(19, .ref 10 0 n.brs.length none)::(20, .ref 11 0 n.brs.length none)::(21, .ref 12 0 n.brs.length none)::(167, .v (.l Zhx) n.brs)::(168,nt n.brs.length)::(169,nt 0)::(15, .ref 8 0 R.length none)::(16, .v IC ev)::zK n C fl g i) (Xao _) rfl ⟨rfl,rfl,rfl,rfl,rfl,rfl,rfl,rfl,rfl,rfl,rfl,rfl,rfl,rfl,rfl,rfl,rfl,rfl,trivial⟩).trans ?_
  exact Za6 [0,1,2,3,4,5,6,7,8,9,10,11,12,13] rfl ⟨rfl,rfl,rfl,rfl,rfl,rfl,rfl,rfl,rfl,rfl,rfl,rfl,rfl,rfl,trivial⟩ ⟨rfl,rfl,rfl,rfl,rfl,rfl,rfl,rfl,rfl,rfl,rfl,rfl,rfl,rfl,rfl,rfl,rfl,rfl,rfl,trivial⟩
 rintro _ tm hp ⟨rfl,hE⟩
 refine⟨_,_,hE, ?_⟩
 show wp _ _ _ _ _ _ _ _ _
 cases he:decide (ev=0)with
 |true=>
  have ho:=ab (of_decide_eq_true he)
  subst ho
  refine Zae ?_
  refine Zac ?_
  refine Zad rfl (Zez rfl rfl rfl rfl rfl (Zzd (n:=n) (S:=fun j=>ZbT n j g) (t:=Zdc g) (gl:=gF g) (tl:=gT g) (ex:=[.row .s (ovN n (fun j=>ZbT n j g) n.brs.length) true, .row .s (ovN n (fun j=>ZbT n j g) n.brs.length) true]) (hO.mono ?_)))
  rintro _ _ _ ⟨rfl,rfl,rfl⟩
  refine Zaa rfl rfl ?_
  refine Zac ?_
  refine Zad rfl (Xaa I (Xaa I (U.mono ?_)))
  rintro _ rfl
  refine Zaa rfl rfl ?_
  iterate 2 refine Zac ?_
  refine Zab rfl ?_
  refine Zab rfl ?_
  refine Zab rfl ?_
  refine Zab he ?_
  refine Zab he ?_
  refine Zam rfl rfl rfl he (Xaa I (Xaa I (U.mono ?_)))
  rintro _ rfl
  refine Zaa rfl rfl ?_
  refine Zab he ?_
  refine Za0 rfl rfl rfl rfl rfl rfl he rfl rfl rfl ?_
  refine Zal rfl ?_
  refine Zaf ?_
  refine Xaa (fun h=>by cases h) (fun _=> ?_)
  exact aa _ _ (Za6 [0,1,2,3,4,5,6,7] rfl ⟨rfl,rfl,rfl,rfl,rfl,rfl,rfl,rfl,trivial⟩ ⟨rfl,rfl,rfl,rfl,rfl,rfl,rfl,rfl,rfl,trivial⟩)
 |false=>
  refine Zae ?_
  refine Zac ?_
  refine Zad rfl (Zez rfl rfl rfl rfl rfl (Zzd (n:=n) (S:=fun j=>ZbT n j g) (t:=Zdc g) (gl:=gF g) (tl:=gT g) (ex:=[.row .s R true, .row .s (ovN n (fun j=>ZbT n j g) n.brs.length) true]) (hO.mono ?_)))
  rintro _ _ _ ⟨rfl,rfl,rfl⟩
  refine Zaa rfl rfl ?_
  refine Zac ?_
  refine Zad rfl (Xaa I (Xaa I (U.mono ?_)))
  rintro _ rfl
  refine Zaa rfl rfl ?_
  iterate 2 refine Zac ?_
  refine Zab rfl ?_
  refine Zab rfl ?_
  refine Zab rfl ?_
  refine Zah he ?_
  refine Zah he ?_
  refine Zah he ?_
  refine Zah he ?_
  refine Za9 rfl rfl rfl rfl rfl rfl he rfl rfl rfl ?_
  refine Zal rfl ?_
  refine Zaf ?_
  refine Xaa (fun h=>by cases h) (fun _=> ?_)
  exact aa _ _ (Za6 [0,1,2,3,4,5,6,7] rfl ⟨rfl,rfl,rfl,rfl,rfl,rfl,rfl,rfl,trivial⟩ ⟨rfl,rfl,rfl,rfl,rfl,rfl,rfl,rfl,rfl,trivial⟩)
open Go.Am Go.Tx
theorem ZjC:ZuM ((Zdb Tryz.prog Zao 400).rn 4 [] [])=true:=by decide+kernel
theorem Zms:PureOK Tryz.prog Zao 4 [] (fun V=>V= .v .b true):=by
 refine⟨fun R C=> ?_⟩
 simp only[RL]at C
 subst C
 have h:=ZjC
 cases j:(Zdb Tryz.prog Zao 400).rn 4 [] []with
 |none=>rw[j]at h;cases h
 |some x=>
  obtain⟨v,H⟩:=x
  rw[j]at h
  have I:v= .bool true:=by
   cases v<;>first|(cases h;done)|skip
   rename_i b
   cases b<;>first|rfl|cases h
  subst I
  have J:=ZyT j
  refine⟨.bool true, .v .b true, ?_,by simp only[RV,RR],rfl⟩
  show((Go.Am.lim Tryz.prog Zao).rn 4 [] []).bind _=_
  rw[J]
  rfl
end Go.Proofs.YtapbiodcncnnfaaGreatDoor
