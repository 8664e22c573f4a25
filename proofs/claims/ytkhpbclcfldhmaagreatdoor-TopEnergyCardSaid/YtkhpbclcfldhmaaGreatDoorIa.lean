/-
 The islands of a network: their number, the sums of their loads, the islands of the nodes.
-/
import Derived.Test.YtkhpbclcfldhmaaGreatDoorGb
set_option linter.constructorNameAsVariable false
set_option linter.unusedSimpArgs false
set_option linter.unusedVariables false
namespace Go.Proofs.YtkhpbclcfldhmaaGreatDoor
open Go.Am Go.Tx Ne
set_option maxRecDepth 100000
def ZbG (n:Ne.Net):Nat:=(Zc3 (Zcx n)).toNat
def iOf (n:Ne.Net) (b:Nat):Nat:=((Zcx n).getD b 0).toNat
def iAt (n:Ne.Net) (s:Txt):Nat:=iOf n (bAt n s)
def ZbF (n:Ne.Net):List Int:=(ZeR n).map fun b=>((iOf n b.toNat:Nat):Int)
theorem Ziw (n:Ne.Net):Zc3 (Zcx n)=(ZbG n:Int)∧ZbG n≤ZcI n:=by
 have h:=ZhR (l:=Zcx n) fun x hx=>(Zh5 n x hx).2
 have e:Zc3 (Zcx n)=(ZbG n:Int):=by rw[ZbG];omega
 exact⟨e,by omega⟩
theorem ZeK {n:Ne.Net} {b:Nat} (hb:b<ZcI n):(Zcx n)[b]? =some ((iOf n b:Nat):Int)∧iOf n b<ZbG n:=by
 have hl:=ZlF n
 have hb':b<(Zcx n).length:=by omega
 have h:=ZhR (l:=Zcx n) fun x hx=>(Zh5 n x hx).2
 have h1:=Zh5 n _ (List.getElem_mem hb')
 have h2:=h.1 _ (List.getElem_mem hb')
 have h3:=(Ziw n).1
 have e:((iOf n b:Nat):Int)=(Zcx n)[b]:=by rw[iOf,List.getD_eq_getElem?_getD,List.getElem?_eq_getElem hb',Option.getD_some];omega
 refine⟨?_,by omega⟩
 rw[List.getElem?_eq_getElem hb',e]
theorem ZnK: ∀ {l:List Int} {j:Nat} {x y:Int},l[j]? =some x→(l.set j y).sum=l.sum-x+y
 |a::r,0,x,y,h=>by
  have h:some a=some x:=h
  cases h
  rw[List.set_cons_zero,List.sum_cons,List.sum_cons];omega
 |a::r,j+1,x,y,h=>by
  rw[List.set_cons_succ,List.sum_cons,List.sum_cons,ZnK (l:=r) (x:=x) h];omega
abbrev SC:CT:= .p IC (.p IC IC)
abbrev S3:=Int×Int×Int
def dem (l:List Lo):Int:=(l.map fun x=>x.2.2).sum
theorem ZtO {l:List Lo} {i:Nat} {x:Lo} (h:l[i]? =some x):dem (l.take (i+1))=dem (l.take i)+x.2.2:=by
 rw[dem,ZdV h,List.map_append,List.sum_append,dem]
 simp
theorem ZqN (n:Ne.Net) (hf:Fine n) (s:Txt) (hs:s∈n.nodes):PureOK Tryz.prog Zao 33 [.agg (ZgL n), .agg [.v (.l IC) (ZeR n), .v (.l IC) (Zcx n)], .v .s s] (fun V=>V=nt (iAt n s)):=by
 refine Zae Zah Tryz.func33 ?_
 obtain⟨b1,_⟩:=Zbl hf
 have hI:=Zff n.nodes s (by omega)
 rw[(Zgf hs).1]at hI
 have g1:(ZeR n)[((plN n s:Nat):Int).toNat]? =some ((bAt n s:Nat):Int):=by rw[Int.toNat_natCast];exact(Zdr hs).1
 have g2:(Zcx n)[((bAt n s:Nat):Int).toNat]? =some ((iAt n s:Nat):Int):=by rw[Int.toNat_natCast];exact(ZeK (Zdr hs).2).1
 refine Zag ?_
 refine Zbq ?_
 refine Zbq ?_
 refine Zab ?_
 refine Zaf ?_
 refine Zag ?_
 refine Zab ?_
 refine Zak rfl (fun _=>rfl) rfl rfl rfl ?_
 refine Zab ?_
 refine Zak rfl (fun _=>rfl) rfl rfl rfl ?_
 refine Zab ?_
 refine Zak rfl (fun _=>rfl) rfl rfl rfl ?_
 refine Zab ?_
 refine Zad rfl ((hI).mono ?_)
 rintro _ rfl
 refine Zaa rfl rfl ?_
 refine Zb4 rfl (fun _=>rfl) (Int.natCast_nonneg _) g1 rfl rfl ?_
 refine Zab ?_
 refine Zb4 rfl (fun _=>rfl) (Int.natCast_nonneg _) g2 rfl rfl ?_
 iterate 2 refine Zab ?_
 refine Zaf ?_
 rfl
set_option maxHeartbeats 16000000 in
theorem Zut (n:Ne.Net) (hf:Fine n):PureOK Tryz.prog Zao 32 [.agg (ZgL n)] (fun V=>V=nt (ZbG n)):=by
 refine Zae Zah Tryz.func32 ?_
 obtain⟨b1,_⟩:=Zbl hf
 have hG:=ZvO n hf
 have hl:=ZlF n
 have hm:=(Zd5 n).2
 refine Zag ?_
 refine Zbq ?_
 refine Zab ?_
 refine Zaf ?_
 refine Zag ?_
 refine Zab ?_
 refine Zaf ?_
 refine Zag ?_
 refine Zak rfl (fun _=>rfl) rfl rfl rfl ?_
 refine Zad rfl ((hG).mono ?_)
 rintro _ rfl
 refine Zaa rfl rfl ?_
 iterate 3 refine Zab ?_
 refine Zaf ?_
 refine Zaz Zah rfl (fun(i:Nat)=> [(3, .v IC (Zc3 ((Zcx n).take i))),(8, .v (.l IC) (Zcx n)),(9,nt (ZcI n)),(10,nt i)]) (fun _=> []) (fun i=>i≤ZcI n) (fun i=>ZcI n-i) ?_ 0 (Nat.zero_le _) (ZcX ⟨rfl,rfl,rfl,rfl,congrArg (fun z:Nat=>some (nt z)) hl,rfl,rfl,rfl,trivial⟩)
 intro i hi
 cases h1:decide ((i:Int)<(ZcI n:Int))with
 |false=>
  have e:i=ZcI n:=by have:=of_decide_eq_false h1;omega
  have em:Zc3 ((Zcx n).take i)=(ZbG n:Int):=by rw[List.take_of_length_le (by omega)];exact(Ziw n).1
  refine Zag ?_
  refine Zab ?_
  refine Zaf ?_
  refine brF h1 ?_
  show wp _ _ _ _ _ _ _ _ _
  refine Zag ?_
  iterate 2 refine Zab ?_
  refine Zaf ?_
  exact congrArg (fun z=>SV.v IC z) em
 |true=>
  have hlt:i<ZcI n:=by have:=of_decide_eq_true h1;omega
  obtain⟨gb,hb⟩:=ZeK hlt
  have hn:=(Ziw n).2
  have gb':(Zcx n)[(i:Int).toNat]? =some ((iOf n i:Nat):Int):=by rw[Int.toNat_natCast];exact gb
  have w1:=congrArg (fun x=>some (SV.v (.i .i64) x)) (Zc6 (k:=i) (by omega))
  have em:some (SV.v IC (if IntKind.i64.wrap (((iOf n i:Nat):Int)+1)>Zc3 ((Zcx n).take i)then IntKind.i64.wrap (((iOf n i:Nat):Int)+1)else Zc3 ((Zcx n).take i)))=some (SV.v IC (Zc3 ((Zcx n).take (i+1)))):=by
   rw[ZdV gb,ZjJ,Zar (by omega) (by omega)]
  refine Zag ?_
  refine Zab ?_
  refine Zaf ?_
  refine brT h1 ?_
  refine Zag ?_
  refine Zb4 rfl (fun _=>rfl) (Int.natCast_nonneg i) gb' rfl rfl ?_
  iterate 2 refine Zab ?_
  refine Zaf ?_
  refine Zag ?_
  iterate 5 refine Zab ?_
  refine Zaf ?_
  refine Zag ?_
  iterate 2 refine Zab ?_
  refine Zaf ?_
  exact⟨i+1,hlt,by show ZcI n-(i+1)<ZcI n-i;omega,Zaq ⟨em,rfl,rfl,w1,trivial⟩⟩
def hS (n:Ne.Net) (S:List S3):List SM:=[.cell (ZgL n) true, .cell [.v (.l IC) (ZeR n), .v (.l IC) (Zcx n)] true, .row SC S true]
def zS (n:Ne.Net):TM:=[(1, .ptr 0 0 0),(3, .ptr 1 0 0),(4, .ref 2 0 (ZbG n) none)]
abbrev gCT:CT:= .p .s (.p .s (.p (.i .i64) (.p (.i .i64) (.i .i64))))
abbrev dCT:CT:= .p .s (.p .s (.i .i64))
def zSg (n:Ne.Net) (i:Nat):TM:=(16, .v (.l gCT) n.gens)::(17,nt n.gens.length)::(18,nt i)::zS n
def zSl (n:Ne.Net) (i:Nat):TM:=(49, .v (.l dCT) n.loads)::(50,nt n.loads.length)::(51,nt i)::zS n
set_option maxHeartbeats 16000000 in
theorem Zxb (n:Ne.Net) (hf:Fine n):LoopOK Tryz.prog Zao 0 ⟨15,0,71⟩ (Zbw Tryz.f15 4) (zSg n 0) (hS n (List.replicate (ZbG n) (0,0,0)))
 (fun e tm hp=>e= .exit 0∧ ∃S:List S3,S.length=ZbG n∧S.map (·.2.2)=List.replicate (ZbG n) 0∧Ent 0 tm hp (zS n) (hS n S)):=by
 obtain⟨b1,b2,b3,b4,b5,b6⟩:=Zbl hf
 refine Zaz Zah rfl (fun(a:Nat×List S3)=>zSg n a.1) (fun a=>hS n a.2) (fun a=>a.1≤n.gens.length∧a.2.length=ZbG n∧a.2.map (·.2.2)=List.replicate (ZbG n) 0) (fun a=>n.gens.length-a.1) ?_ (0,List.replicate (ZbG n) (0,0,0)) ⟨Nat.zero_le _,List.length_replicate,List.map_replicate⟩ ZaU
 rintro⟨i,S⟩ ⟨hi,hl,hd⟩
 simp only at hi hl hd
 cases h1:decide ((i:Int)<(n.gens.length:Int))with
 |false=>
  refine Zag ?_
  refine Zab ?_
  refine Zaf ?_
  refine brF h1 ?_
  exact⟨rfl,S,hl,hd,Zaq ⟨rfl,rfl,rfl,trivial⟩⟩
 |true=>
  have hlt:i<n.gens.length:=by have:=of_decide_eq_true h1;omega
  obtain⟨x,gx0,gx⟩:=Zhq hlt
  have hx:=(ZuX hf (List.mem_of_getElem? gx0)).2.1
  have hP:=ZqN n hf x.2.1 hx
  have hj:=(ZeK (Zdr hx).2).2
  have hc:(0:Int)≤((iAt n x.2.1:Nat):Int)∧((iAt n x.2.1:Nat):Int)<((ZbG n:Nat):Int):=cin hj
  obtain⟨J,hJ⟩: ∃J,0+((iAt n x.2.1:Nat):Int).toNat=J:=⟨_,rfl⟩
  have hJl:J<S.length:=by rw[←hJ,hl,Int.toNat_natCast,Nat.zero_add];exact hj
  have gs:S[0+((iAt n x.2.1:Nat):Int).toNat]? =some S[J]:=by rw[hJ];exact List.getElem?_eq_getElem hJl
  have e3:(S.map (·.2.2))[J]? =some S[J].2.2:=by rw[List.getElem?_map,List.getElem?_eq_getElem hJl];rfl
  obtain⟨⟨a,b,d⟩,hy⟩: ∃y,S[J]=y:=⟨_,rfl⟩
  rw[hy]at gs e3
  have gs2:(S.set (0+((iAt n x.2.1:Nat):Int).toNat) (IntKind.i64.wrap (a+x.2.2.1),b,d))[0+((iAt n x.2.1:Nat):Int).toNat]? =some (IntKind.i64.wrap (a+x.2.2.1),b,d):=by rw[hJ,List.getElem?_set_self hJl]
  have w1:=congrArg (fun x=>some (SV.v (.i .i64) x)) (Zc6 (k:=i) (by omega))
  refine Zag ?_
  refine Zab ?_
  refine Zaf ?_
  refine brT h1 ?_
  refine Zag ?_
  refine Zb4 rfl (fun _=>rfl) (Int.natCast_nonneg i) gx rfl rfl ?_
  refine Zab ?_
  refine Zbq ?_
  refine Zad rfl (Zax rfl rfl rfl rfl rfl rfl rfl rfl ?_)
  refine Zau rfl ?_
  refine Zaf ?_
  refine Zag ?_
  refine Zab ?_
  refine Zak rfl (fun _=>rfl) rfl rfl rfl ?_
  refine Zak rfl (fun _=>rfl) rfl rfl rfl ?_
  refine Zab ?_
  refine Zak rfl (fun _=>rfl) rfl rfl rfl ?_
  refine Zad rfl ((hP).mono ?_)
  rintro _ rfl
  refine Zaa rfl rfl ?_
  refine Zad rfl (ZaM rfl rfl rfl rfl rfl rfl rfl hc ?_)
  refine Zaa rfl rfl ?_
  refine Zab ?_
  refine Zaf ?_
  refine Zag ?_
  iterate 3 refine Zab ?_
  refine Zad rfl (Zbb rfl rfl rfl gs rfl ?_)
  refine Zaa rfl rfl ?_
  refine Zab ?_
  refine Zak rfl (fun _=>rfl) rfl rfl rfl ?_
  iterate 3 refine Zab ?_
  refine Zad rfl (Zcl rfl rfl rfl rfl rfl gs rfl rfl rfl ?_)
  refine Zau rfl ?_
  refine Zaf ?_
  refine Zag ?_
  iterate 3 refine Zab ?_
  refine Zad rfl (Zbb rfl rfl rfl gs2 rfl ?_)
  refine Zaa rfl rfl ?_
  refine Zab ?_
  refine Zak rfl (fun _=>rfl) rfl rfl rfl ?_
  iterate 3 refine Zab ?_
  refine Zad rfl (Zcl rfl rfl rfl rfl rfl gs2 rfl rfl rfl ?_)
  refine Zau rfl ?_
  refine Zaf ?_
  refine Zag ?_
  iterate 2 refine Zab ?_
  refine Zaf ?_
  refine⟨(i+1,(S.set J (IntKind.i64.wrap (a+x.2.2.1),b,d)).set J (IntKind.i64.wrap (a+x.2.2.1),IntKind.i64.wrap (b+x.2.2.2.1),d)),⟨hlt,by rw[List.length_set,List.length_set];exact hl, ?_⟩,by show n.gens.length-(i+1)<n.gens.length-i;omega, ?_⟩
  ·rw[List.map_set,List.map_set]
   show((S.map (·.2.2)).set J d).set J d=_
   rw[List.set_set,ZoS (by rw[Za5];exact e3)]
   exact hd
  ·exact ZaI [0,1,2] ⟨rfl,rfl,rfl,rfl,by rw[hJ];rfl,rfl,trivial⟩ (by decide) ⟨rfl,ZaA,rfl,ZaA,w1,ZaA,rfl,ZaZ (by show 0<3;omega),rfl,ZaZ (by show 1<3;omega),rfl,ZaY (by show 2<3;omega),trivial⟩
set_option maxHeartbeats 16000000 in
theorem ZxX (n:Ne.Net) (hf:Fine n) (S0:List S3) (h0:S0.length=ZbG n) (hd0:S0.map (·.2.2)=List.replicate (ZbG n) 0):LoopOK Tryz.prog Zao 0 ⟨15,0,71⟩ (Zbw Tryz.f15 11) (zSl n 0) (hS n S0)
 (fun e tm hp=>e= .exit 2∧ ∃S:List S3,S.length=ZbG n∧(∀s∈S,0≤s.2.2∧s.2.2≤1200000)∧(S.map (·.2.2)).sum=dem n.loads∧Ent 0 tm hp (zS n) (hS n S)):=by
 obtain⟨b1,b2,b3,b4,b5,b6⟩:=Zbl hf
 refine Zaz Zah rfl (fun(a:Nat×List S3)=>zSl n a.1) (fun a=>hS n a.2) (fun a=>a.1≤n.loads.length∧a.2.length=ZbG n∧(∀s∈a.2,0≤s.2.2∧s.2.2≤100000*(a.1:Int))∧(a.2.map (·.2.2)).sum=dem (n.loads.take a.1)) (fun a=>n.loads.length-a.1) ?_ (0,S0) ⟨Nat.zero_le _,h0,fun s hs=> ?_, ?_⟩ ZaU
 case refine_2=>
  have:s.2.2∈S0.map (·.2.2):=List.mem_map_of_mem hs
  rw[hd0]at this
  rw[List.eq_of_mem_replicate this]
  exact⟨Int.le_refl 0,Int.le_refl 0⟩
 case refine_3=>
  rw[hd0]
  show _=dem (n.loads.take 0)
  rw[List.take_zero]
  have: ∀k,(List.replicate k (0:Int)).sum=0:=fun k=>by induction k with
   |zero=>rfl
   |succ k ih=>rw[List.replicate_succ,List.sum_cons,ih];rfl
  exact this _
 rintro⟨i,S⟩ ⟨hi,hl,hb,hd⟩
 simp only at hi hl hb hd
 cases h1:decide ((i:Int)<(n.loads.length:Int))with
 |false=>
  have e:i=n.loads.length:=by have:=of_decide_eq_false h1;omega
  refine Zag ?_
  refine Zab ?_
  refine Zaf ?_
  refine brF h1 ?_
  exact⟨rfl,S,hl,fun s hs=>by have:=hb s hs;omega,by rw[hd,e,List.take_length],Zaq ⟨rfl,rfl,rfl,trivial⟩⟩
 |true=>
  have hlt:i<n.loads.length:=by have:=of_decide_eq_true h1;omega
  obtain⟨x,gx0,gx⟩:=Zhq hlt
  have hdv:=Zyx hf (List.mem_of_getElem? gx0)
  have hx:=hdv.2.1
  have hfit:=ZxD hdv.2.2
  have hP:=ZqN n hf x.2.1 hx
  have hj:=(ZeK (Zdr hx).2).2
  have hc:(0:Int)≤((iAt n x.2.1:Nat):Int)∧((iAt n x.2.1:Nat):Int)<((ZbG n:Nat):Int):=cin hj
  obtain⟨J,hJ⟩: ∃J,0+((iAt n x.2.1:Nat):Int).toNat=J:=⟨_,rfl⟩
  have hJl:J<S.length:=by rw[←hJ,hl,Int.toNat_natCast,Nat.zero_add];exact hj
  have gs:S[0+((iAt n x.2.1:Nat):Int).toNat]? =some S[J]:=by rw[hJ];exact List.getElem?_eq_getElem hJl
  have e3:(S.map (·.2.2))[J]? =some S[J].2.2:=by rw[List.getElem?_map,List.getElem?_eq_getElem hJl];rfl
  have hbJ:=hb _ (List.getElem_mem hJl)
  obtain⟨⟨a,b,d⟩,hy⟩: ∃y,S[J]=y:=⟨_,rfl⟩
  rw[hy]at gs e3 hbJ
  simp only at e3 hbJ
  have hw:IntKind.i64.wrap (d+x.2.2)=d+x.2.2:=Zar (by omega) (by omega)
  have eS:S.set (0+((iAt n x.2.1:Nat):Int).toNat) (a,b,IntKind.i64.wrap (d+x.2.2))=S.set J (a,b,d+x.2.2):=by rw[hw,hJ]
  have w1:=congrArg (fun x=>some (SV.v (.i .i64) x)) (Zc6 (k:=i) (by omega))
  refine Zag ?_
  refine Zab ?_
  refine Zaf ?_
  refine brT h1 ?_
  refine Zag ?_
  refine Zb4 rfl (fun _=>rfl) (Int.natCast_nonneg i) gx rfl rfl ?_
  refine Zab ?_
  refine Zbq ?_
  refine Zad rfl (Zax rfl rfl rfl rfl rfl rfl rfl rfl ?_)
  refine Zau rfl ?_
  refine Zaf ?_
  refine Zag ?_
  refine Zab ?_
  refine Zak rfl (fun _=>rfl) rfl rfl rfl ?_
  refine Zak rfl (fun _=>rfl) rfl rfl rfl ?_
  refine Zab ?_
  refine Zak rfl (fun _=>rfl) rfl rfl rfl ?_
  refine Zad rfl ((hP).mono ?_)
  rintro _ rfl
  refine Zaa rfl rfl ?_
  refine Zad rfl (ZaM rfl rfl rfl rfl rfl rfl rfl hc ?_)
  refine Zaa rfl rfl ?_
  refine Zab ?_
  refine Zad rfl (Zbb rfl rfl rfl gs rfl ?_)
  refine Zaa rfl rfl ?_
  refine Zab ?_
  refine Zak rfl (fun _=>rfl) rfl rfl rfl ?_
  refine Zab ?_
  refine Zad rfl (ZaM rfl rfl rfl rfl rfl rfl rfl hc ?_)
  refine Zaa rfl rfl ?_
  refine Zab ?_
  refine Zad rfl (Zcl rfl rfl rfl rfl rfl gs rfl rfl rfl ?_)
  refine Zau rfl ?_
  refine Zaf ?_
  refine Zag ?_
  iterate 2 refine Zab ?_
  refine Zaf ?_
  refine⟨(i+1,S.set J (a,b,d+x.2.2)),⟨hlt,by rw[List.length_set];exact hl,fun s hs=> ?_, ?_⟩,by show n.loads.length-(i+1)<n.loads.length-i;omega, ?_⟩
  ·rcases List.mem_or_eq_of_mem_set hs with h|h
   ·have:=hb s h;show _∧_≤100000*((i+1:Nat):Int);omega
   ·rw[h];show 0≤d+x.2.2∧d+x.2.2≤100000*((i+1:Nat):Int);omega
  ·rw[List.map_set]
   show((S.map (·.2.2)).set J (d+x.2.2)).sum=_
   rw[ZnK e3,hd,ZtO gx0];omega
  ·exact ZaI [0,1,2] ⟨rfl,rfl,rfl,rfl,congrArg (fun z=>some (SM.row SC z true)) eS,rfl,trivial⟩ (by decide) ⟨rfl,ZaA,rfl,ZaA,w1,ZaA,rfl,ZaZ (by show 0<3;omega),rfl,ZaZ (by show 1<3;omega),rfl,ZaY (by show 2<3;omega),trivial⟩
def Zs0 (n:Ne.Net) (S:List S3):Prop:=S.length=ZbG n∧(∀s∈S,0≤s.2.2∧s.2.2≤1200000)∧(S.map (·.2.2)).sum=dem n.loads
set_option maxHeartbeats 16000000 in
theorem ZxS (n:Ne.Net) (hf:Fine n):PureOK Tryz.prog Zao 15 [.agg (ZgL n)] (fun V=> ∃S,V= .v (.l SC) S∧Zs0 n S):=by
 refine Zae Zah Tryz.func15 ?_
 obtain⟨b1,b2,b3,b4,b5,b6⟩:=Zbl hf
 have hG:=ZvO n hf
 have hN:=Zut n hf
 have hm:=(Zd5 n).2
 have hn:=(Ziw n).2
 have hmk:(0:Int)≤(ZbG n:Int)∧(ZbG n:Int)≤(ZbG n:Int)∧(24:Int)*(ZbG n:Int)≤281474976710656∧(ZbG n:Int)<9223372036854775808:=by omega
 refine Zag ?_
 refine Zbq ?_
 refine Zab ?_
 refine Zaf ?_
 refine Zag ?_
 refine Zak rfl (fun _=>rfl) rfl rfl rfl ?_
 refine Zad rfl ((hG).mono ?_)
 rintro _ rfl
 refine Zaa rfl rfl ?_
 refine Zbq ?_
 refine Zad rfl (Zax rfl rfl rfl rfl rfl rfl rfl rfl ?_)
 refine Zau rfl ?_
 refine Zaf ?_
 refine Zag ?_
 refine Zak rfl (fun _=>rfl) rfl rfl rfl ?_
 refine Zad rfl ((hN).mono ?_)
 rintro _ rfl
 refine Zaa rfl rfl ?_
 refine Zad rfl (And.intro hmk ?_)
 refine Zaa rfl rfl ?_
 refine Zab ?_
 refine Zaf ?_
 refine Zag ?_
 refine Zab ?_
 refine Zak rfl (fun _=>rfl) rfl rfl rfl ?_
 iterate 2 refine Zab ?_
 refine Zaf ?_
 refine((Zxb n hf).ent ?_).through ?_
 ·exact ZaI [0,1,2] ⟨rfl,rfl,rfl,rfl,congrArg (fun z=>some (SM.row SC (List.replicate z (0,0,0)) true)) (Int.toNat_natCast _),rfl,trivial⟩ (by decide) ⟨rfl,ZaA,rfl,ZaA,rfl,ZaA,rfl,ZaZ (by show 0<3;omega),rfl,ZaZ (by show 1<3;omega),congrArg (fun z=>some (SV.ref 2 0 z none)) (Int.toNat_natCast _),ZaY (by show 2<3;omega),trivial⟩
 rintro _ tm hp ⟨rfl,S,g1,g2,hE⟩
 refine⟨_,_,hE, ?_⟩
 show wp _ _ _ _ _ _ _ _ _
 refine Zag ?_
 refine Zab ?_
 refine Zak rfl (fun _=>rfl) rfl rfl rfl ?_
 iterate 2 refine Zab ?_
 refine Zaf ?_
 refine((ZxX n hf S g1 g2).ent (Zaq ⟨rfl,rfl,rfl,rfl,rfl,rfl,trivial⟩)).through ?_
 rintro _ tm hp ⟨rfl,S,g1,g2,g3,hE⟩
 refine⟨_,_,hE, ?_⟩
 show wp _ _ _ _ _ _ _ _ _
 refine Zag ?_
 iterate 2 refine Zab ?_
 refine Zaf ?_
 exact⟨by rw[g1];omega,S,by rw[ZeU g1],g1,g2,g3⟩
theorem Zzq (n:Ne.Net) (hz:Zdw n) (h:(!decide (ZgW n=0))=true):PureOK Tryz.prog Zao 5 [.agg (ZgL n)] (fun V=>V= .tup [.nils, .v IC (ZgW n)]):=by
 refine Zae Zah Tryz.func5 ?_
 have hC:=Zk1 n hz
 refine Zag ?_
 refine Zbq ?_
 iterate 2 refine Zab ?_
 refine Zaf ?_
 refine Zag ?_
 refine Zak rfl (fun _=>rfl) rfl rfl rfl ?_
 refine Zad rfl ((hC).mono ?_)
 rintro _ rfl
 refine Zaa rfl rfl ?_
 refine Zab ?_
 refine Zaf ?_
 refine Zag ?_
 iterate 2 refine Zab ?_
 refine Zaf ?_
 refine brT h ?_
 refine Zag ?_
 iterate 3 refine Zab ?_
 refine Zaf ?_
 rfl
theorem Zzb (n:Ne.Net) (hz:Zdw n) (h0:ZgW n=0):PureOK Tryz.prog Zao 5 [.agg (ZgL n)] (fun V=> ∃S,V= .tup [.v (.l SC) S,nt 0]∧Zs0 n S):=by
 refine Zae Zah Tryz.func5 ?_
 have hC:=Zk1 n hz
 have h:(!decide (ZgW n=0))=false:=by rw[h0];rfl
 have hS:=ZxS n (Zno h0)
 refine Zag ?_
 refine Zbq ?_
 iterate 2 refine Zab ?_
 refine Zaf ?_
 refine Zag ?_
 refine Zak rfl (fun _=>rfl) rfl rfl rfl ?_
 refine Zad rfl ((hC).mono ?_)
 rintro _ rfl
 refine Zaa rfl rfl ?_
 refine Zab ?_
 refine Zaf ?_
 refine Zag ?_
 iterate 2 refine Zab ?_
 refine Zaf ?_
 refine brF h ?_
 refine Zag ?_
 refine Zak rfl (fun _=>rfl) rfl rfl rfl ?_
 refine Zad rfl ((hS).mono ?_)
 rintro _ ⟨S,rfl,hS⟩
 refine Zaa rfl rfl ?_
 iterate 2 refine Zab ?_
 refine Zaf ?_
 exact⟨S,rfl,hS⟩
theorem Ztg (n:Ne.Net) (hz:Zdw n) (h:(!decide (ZgW n=0))=true):PureOK Tryz.prog Zao 6 [.agg (ZgL n)] (fun V=>V= .tup [.nils, .v IC (ZgW n)]):=by
 refine Zae Zah Tryz.func6 ?_
 have hC:=Zk1 n hz
 refine Zag ?_
 refine Zbq ?_
 iterate 2 refine Zab ?_
 refine Zaf ?_
 refine Zag ?_
 refine Zak rfl (fun _=>rfl) rfl rfl rfl ?_
 refine Zad rfl ((hC).mono ?_)
 rintro _ rfl
 refine Zaa rfl rfl ?_
 refine Zab ?_
 refine Zaf ?_
 refine Zag ?_
 iterate 2 refine Zab ?_
 refine Zaf ?_
 refine brT h ?_
 refine Zag ?_
 iterate 3 refine Zab ?_
 refine Zaf ?_
 rfl
theorem Zie (n:Ne.Net):(ZbF n).length=n.nodes.length:=by rw[ZbF,List.length_map,ZfK]
theorem Znv {n:Ne.Net} {s:Txt} (h:s∈n.nodes):(ZbF n)[plN n s]? =some ((iAt n s:Nat):Int):=by
 rw[ZbF,List.getElem?_map,(Zdr h).1]
 show some (((iOf n ((bAt n s:Nat):Int).toNat:Nat):Int))=_
 rw[Int.toNat_natCast];rfl
set_option maxHeartbeats 16000000 in
theorem Zuf (n:Ne.Net) (hz:Zdw n) (h0:ZgW n=0):PureOK Tryz.prog Zao 6 [.agg (ZgL n)] (fun V=>V= .tup [.v (.l IC) (ZbF n),nt 0]):=by
 refine Zae Zah Tryz.func6 ?_
 have hC:=Zk1 n hz
 have h:(!decide (ZgW n=0))=false:=by rw[h0];rfl
 have hf:=Zno h0
 have hG:=ZvO n hf
 obtain⟨b1,_⟩:=Zbl hf
 have hbl:=ZfK n
 refine Zag ?_
 refine Zbq ?_
 iterate 2 refine Zab ?_
 refine Zaf ?_
 refine Zag ?_
 refine Zak rfl (fun _=>rfl) rfl rfl rfl ?_
 refine Zad rfl ((hC).mono ?_)
 rintro _ rfl
 refine Zaa rfl rfl ?_
 refine Zab ?_
 refine Zaf ?_
 refine Zag ?_
 iterate 2 refine Zab ?_
 refine Zaf ?_
 refine brF h ?_
 refine Zag ?_
 refine Zak rfl (fun _=>rfl) rfl rfl rfl ?_
 refine Zad rfl ((hG).mono ?_)
 rintro _ rfl
 refine Zaa rfl rfl ?_
 refine Zbq ?_
 refine Zad rfl (Zax rfl rfl rfl rfl rfl rfl rfl rfl ?_)
 refine Zau rfl ?_
 refine Zaf ?_
 refine Zag ?_
 refine Zab ?_
 refine Zaf ?_
 refine Zag ?_
 refine Zab ?_
 refine Zak rfl (fun _=>rfl) rfl rfl rfl ?_
 iterate 2 refine Zab ?_
 refine Zaf ?_
 refine Zaz Zah rfl (fun(i:Nat)=> [(6, .ref 1 0 i none),(5, .ptr 0 0 0),(17, .v (.l IC) (ZeR n)),(18,nt n.nodes.length),(19,nt i)]) (fun i=> [.cell [.v (.l IC) (ZeR n), .v (.l IC) (Zcx n)] true, .row IC ((ZbF n).take i) true]) (fun i=>i≤n.nodes.length) (fun i=>n.nodes.length-i) ?_ 0 (Nat.zero_le _) ?_
 case refine_2=>
  refine Ent.trans (tm1:=[(6, .nils),(5, .ptr 0 0 0),(17, .v (.l IC) (ZeR n)),(18,nt n.nodes.length),(19,nt 0)]) (hp1:=[.cell [.v (.l IC) (ZeR n), .v (.l IC) (Zcx n)] true]) (ZaI [1] ⟨rfl,rfl,trivial⟩ (by decide) ⟨rfl,fun _ h=>absurd h List.not_mem_nil,rfl,ZaZ (by show 0<1;omega),rfl,ZaA,congrArg (fun z:Nat=>some (nt z)) hbl,ZaA,rfl,ZaA,trivial⟩) ?_
  exact Zij (k:=6) (ct:=IC) (Nat.zero_le _) rfl ⟨rfl,rfl,rfl,rfl,trivial⟩
 intro i hi
 have hpl:=Zie n
 have hle:((ZbF n).take i).length=i:=by rw[List.length_take];omega
 cases h1:decide ((i:Int)<(n.nodes.length:Int))with
 |false=>
  have e:(ZbF n).take i=ZbF n:=List.take_of_length_le (by have:=of_decide_eq_false h1;omega)
  refine Zag ?_
  refine Zab ?_
  refine Zaf ?_
  refine brF h1 ?_
  show wp _ _ _ _ _ _ _ _ _
  refine Zag ?_
  iterate 3 refine Zab ?_
  refine Zaf ?_
  exact⟨by rw[hle];omega,by rw[ZeU hle,e];rfl⟩
 |true=>
  have hlt:i<n.nodes.length:=by have:=of_decide_eq_true h1;omega
  obtain⟨b,gb,hb⟩:=Zni hlt
  have gb':(ZeR n)[(i:Int).toNat]? =some (b:Int):=by rw[Int.toNat_natCast];exact gb
  have gi:(Zcx n)[(b:Int).toNat]? =some ((iOf n b:Nat):Int):=by rw[Int.toNat_natCast];exact(ZeK hb).1
  have gp:(ZbF n)[i]? =some ((iOf n b:Nat):Int):=by
   rw[ZbF,List.getElem?_map,gb]
   show some (((iOf n ((b:Nat):Int).toNat:Nat):Int))=_
   rw[Int.toNat_natCast]
  have hz1:(i+1)*8≤140737488355328:=by omega
  have w1:=congrArg (fun x=>some (SV.v (.i .i64) x)) (Zc6 (k:=i) (by omega))
  refine Zag ?_
  refine Zab ?_
  refine Zaf ?_
  refine brT h1 ?_
  refine Zag ?_
  refine Zb4 rfl (fun _=>rfl) (Int.natCast_nonneg i) gb' rfl rfl ?_
  iterate 2 refine Zab ?_
  refine Zaf ?_
  refine Zag ?_
  iterate 2 refine Zab ?_
  refine Zak rfl (fun _=>rfl) rfl rfl rfl ?_
  refine Zab ?_
  refine Zb4 rfl (fun _=>rfl) (Int.natCast_nonneg _) gi rfl rfl ?_
  refine Zab ?_
  refine Zbq ?_
  refine Zad rfl (Zh0 rfl rfl rfl rfl rfl rfl rfl rfl rfl rfl rfl hle.symm hz1 ?_)
  refine Zaa rfl rfl ?_
  refine Zab ?_
  refine Zaf ?_
  refine Zag ?_
  iterate 2 refine Zab ?_
  refine Zaf ?_
  refine⟨i+1,hlt,by show n.nodes.length-(i+1)<n.nodes.length-i;omega, ?_⟩
  exact ZaI [0,3] ⟨rfl,rfl,congrArg (fun z=>some (SM.row IC z true)) (ZdV gp).symm,rfl,trivial⟩ (by decide) ⟨rfl,ZaY (by show 1<2;omega),rfl,ZaZ (by show 0<2;omega),rfl,ZaA,rfl,ZaA,w1,ZaA,trivial⟩
end Go.Proofs.YtkhpbclcfldhmaaGreatDoor
