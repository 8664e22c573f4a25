/-
 The law TopEnergy. (Printed by tools/genen.py.)
-/
import Derived.Test.YtkhpbclcfldhmaaGreatDoorIa
import Derived.Test.YtkhpbclcfldhmaaGreatDoorSw
set_option linter.constructorNameAsVariable false
set_option linter.unusedSimpArgs false
set_option linter.unusedVariables false
namespace Go.Proofs.YtkhpbclcfldhmaaGreatDoor
open Go.Am Go.Tx Ne Dv Go.Lib
set_option maxRecDepth 100000
abbrev W5:=Int×(Int×(Int×(Int×Txt)))
abbrev WC:CT:= .p IC (.p IC (.p IC (.p IC .s)))
def zW:W5:=(0,0,0,0,[])
def sup (l:List W5):Int:=(l.map fun a=>a.2.2.1).sum
def dmd (l:List W5):List Int:=l.map fun a=>a.2.2.2.1
def Isl (p:Int) (a:W5):Prop:=(1≤a.1∧a.1≤50)∧a.2.1=0∧(0≤a.2.2.1∧a.2.2.1≤p)∧(0≤a.2.2.2.1∧a.2.2.2.1≤1200000)∧a.2.2.2.2=[48]
theorem ZuF {α:Type} {l:List α} {n k:Nat} {z x:α} (hl:l.length=k) (h:k<n):(l++List.replicate (n-k) z).set k x=(l++ [x])++List.replicate (n-(k+1)) z:=by
 obtain⟨r,hr⟩: ∃r,n-k=r+1:=⟨n-k-1,by omega⟩
 have e:n-(k+1)=r:=by omega
 rw[hr,e,List.replicate_succ,List.set_append,if_neg (by omega),hl,Nat.sub_self,List.set_cons_zero,List.append_assoc]
 rfl
theorem Zt8 {α:Type} {l:List α} {n k:Nat} {z:α} (hl:l.length=k) (h:k<n):(l++List.replicate (n-k) z)[k]? =some z:=by
 obtain⟨r,hr⟩: ∃r,n-k=r+1:=⟨n-k-1,by omega⟩
 rw[hr,List.replicate_succ,List.getElem?_append_right (by omega),hl,Nat.sub_self]
 rfl
theorem ZtU {α:Type} {l:List α} {x:α} {r:List α} {k:Nat} (hl:l.length=k):((l++ [x])++r)[k]? =some x:=by
 rw[List.append_assoc,List.getElem?_append_right (by omega),hl,Nat.sub_self]
 rfl
theorem Ztu {α:Type} {l:List α} {x y:α} {r:List α} {k:Nat} (hl:l.length=k):((l++ [x])++r).set k y=(l++ [y])++r:=by
 rw[List.append_assoc,List.set_append,if_neg (by omega),hl,Nat.sub_self,List.append_assoc]
 rfl
def ZiX (n:Ne.Net):Ne.Net:={n with gens:=(n.gens.take (if(4:Int)<(n.gens.length:Int)then(4:Int)else(n.gens.length:Int)).toNat).drop 0,loads:=(n.loads.take (if(4:Int)<(n.loads.length:Int)then(4:Int)else(n.loads.length:Int)).toNat).drop 0}
theorem ZpK {n:Ne.Net} (h:Zdw n):Zdw (ZiX n):=by
 obtain⟨h1,h2,h3,h4,h5,h6⟩:=h
 exact⟨h1,h2,h3,fun x hx=>h4 x (List.mem_of_mem_take (List.mem_of_mem_drop hx)),fun x hx=>h5 x (List.mem_of_mem_take (List.mem_of_mem_drop hx)),h6⟩
def hL (m:Ne.Net) (A:List W5):List SM:=[.cell (ZgL m) true, .row WC A true]
def zL1 (m:Ne.Net) (S:List S3) (pw ine:List Int) (d:Int) (k:Nat):TM:=[(1, .v (.l IC) pw),(2, .v (.l IC) ine),(3, .ptr 0 0 0),(11, .v (.l IC) (ZbF m)),(13, .ref 1 0 (ZbG m) none),(14, .v IC (0:Int)),(15, .v IC d),(92, .v (.l SC) S),(93,nt (ZbG m)),(94,nt k)]
def zL2 (m:Ne.Net) (pw:List Int) (s d:Int) (k:Nat):TM:=[(1, .v (.l IC) pw),(3, .ptr 0 0 0),(11, .v (.l IC) (ZbF m)),(13, .ref 1 0 (ZbG m) none),(14, .v IC s),(15, .v IC d),(124, .v (.l gCT) m.gens),(125,nt m.gens.length),(126,nt k)]
def dS (S:List S3):Int:=(S.map fun x=>x.2.2).sum
theorem ZvK {S:List S3} {i:Nat} {x:S3} (h:S[i]? =some x):dS (S.take (i+1))=dS (S.take i)+x.2.2:=by
 rw[dS,ZdV h,List.map_append,List.sum_append,dS]
 simp
set_option maxHeartbeats 16000000 in
theorem Zy5 (m:Ne.Net) (hf:Fine m) (S:List S3) (hS:Zs0 m S) (pw ine:List Int):LoopOK Tryz.prog Zao 0 ⟨3,0,219⟩ (Zbw Tryz.f3 14) (zL1 m S pw ine 0 0) (hL m (List.replicate (ZbG m) zW))
 (fun e tm hp=>e= .exit 0∧ ∃A:List W5,A.length=ZbG m∧(∀a∈A,Isl 0 a)∧dmd A=S.map (·.2.2)∧Ent 0 tm hp [(1, .v (.l IC) pw),(3, .ptr 0 0 0),(11, .v (.l IC) (ZbF m)),(13, .ref 1 0 (ZbG m) none),(14, .v IC (0:Int)),(15, .v IC (dS S))] (hL m A)):=by
 obtain⟨b1,_⟩:=Zbl hf
 have hm:=(Zd5 m).2
 have hn:=(Ziw m).2
 obtain⟨s1,s2,_⟩:=hS
 refine Zaz Zah rfl (fun(a:Nat×Int×List W5)=>zL1 m S pw ine a.2.1 a.1) (fun a=>hL m (a.2.2++List.replicate (ZbG m-a.1) zW)) (fun a=>a.1≤ZbG m∧a.2.2.length=a.1∧(∀x∈a.2.2,Isl 0 x)∧dmd a.2.2=(S.take a.1).map (·.2.2)∧a.2.1=dS (S.take a.1)∧0≤a.2.1∧a.2.1≤1200000*(a.1:Int)) (fun a=>ZbG m-a.1) ?_ (0,0,[]) ⟨Nat.zero_le _,rfl,fun x h=>absurd h List.not_mem_nil,rfl,rfl,Int.le_refl _,Int.le_refl _⟩ ZaU
 rintro⟨k,d,D⟩ ⟨hk,hl,hI,hD,hd,hd0,hd1⟩
 simp only at hk hl hI hD hd hd0 hd1
 cases h1:decide ((k:Int)<(ZbG m:Int))with
 |false=>
  have e:k=ZbG m:=by have:=of_decide_eq_false h1;omega
  have eS:S.take k=S:=List.take_of_length_le (by omega)
  rw[eS]at hD hd
  refine Zag ?_
  refine Zab ?_
  refine Zaf ?_
  refine brF h1 ?_
  refine⟨rfl,D,by omega,hI,hD, ?_⟩
  refine Ent.eqs (hp0:=hL m D) ?_ (Zaq ⟨rfl,rfl,rfl,rfl,rfl,congrArg (fun z=>some (SV.v IC z)) hd,trivial⟩)
  show hL m (D++List.replicate (ZbG m-k) zW)=_
  rw[e,Nat.sub_self,List.replicate_zero,List.append_nil]
 |true=>
  have hlt:k<ZbG m:=by have:=of_decide_eq_true h1;omega
  obtain⟨x,gx0,gx⟩:=Zhq (l:=S) (i:=k) (by omega)
  have hx:=s2 x (List.mem_of_getElem? gx0)
  have hc:=cin hlt
  have ek:0+(k:Int).toNat=k:=by rw[Int.toNat_natCast,Nat.zero_add]
  have gy:(D++List.replicate (ZbG m-k) zW)[0+(k:Int).toNat]? =some zW:=by rw[ek];exact Zt8 hl hlt
  have eset:(D++List.replicate (ZbG m-k) zW).set (0+(k:Int).toNat) (10,0,0,x.2.2,[48])=(D++ [(10,0,0,x.2.2,[48])])++List.replicate (ZbG m-(k+1)) zW:=by rw[ek];exact ZuF hl hlt
  have w1:=congrArg (fun x=>some (SV.v (.i .i64) x)) (Zc6 (k:=k) (by omega))
  have wd:IntKind.i64.wrap (d+x.2.2)=d+x.2.2:=Zar (by omega) (by omega)
  have next: ∀ {tm:TM} {hp:List SM} (I:Int),1≤I∧I≤50→Ent 0 tm hp (zL1 m S pw ine (d+x.2.2) (k+1)) (hL m ((D++ [(I,0,0,x.2.2,[48])])++List.replicate (ZbG m-(k+1)) zW))→ ∃a':Nat×Int×List W5,(a'.1≤ZbG m∧a'.2.2.length=a'.1∧(∀x∈a'.2.2,Isl 0 x)∧dmd a'.2.2=(S.take a'.1).map (·.2.2)∧a'.2.1=dS (S.take a'.1)∧0≤a'.2.1∧a'.2.1≤1200000*(a'.1:Int))∧ZbG m-a'.1<ZbG m-k∧Ent 0 tm hp (zL1 m S pw ine a'.2.1 a'.1) (hL m (a'.2.2++List.replicate (ZbG m-a'.1) zW)):=by
   intro tm hp I hI2 hE
   refine⟨(k+1,d+x.2.2,D++ [(I,0,0,x.2.2,[48])]),⟨hlt,by rw[List.length_append,hl];rfl,fun y hy=> ?_, ?_, ?_,by show 0≤d+x.2.2;omega,by show d+x.2.2≤1200000*((k+1:Nat):Int);omega⟩,by show ZbG m-(k+1)<ZbG m-k;omega,hE⟩
   ·rcases List.mem_append.1 hy with hy|hy
    ·exact hI y hy
    ·rw[List.mem_singleton.1 hy];exact⟨hI2,rfl,⟨Int.le_refl 0,Int.le_refl 0⟩,hx,rfl⟩
   ·rw[ZdV gx0,List.map_append,←hD,dmd,List.map_append];rfl
   ·rw[ZvK gx0,←hd]
  have wd':=congrArg (fun z=>some (SV.v IC z)) wd
  refine Zag ?_
  refine Zab ?_
  refine Zaf ?_
  refine brT h1 ?_
  refine Zag ?_
  refine Zab ?_
  refine Zb4 rfl (fun _=>rfl) (Int.natCast_nonneg k) gx rfl rfl ?_
  refine Zab ?_
  refine Zbq ?_
  refine Zab ?_
  refine Zad rfl (Zax rfl rfl rfl rfl rfl rfl rfl rfl ?_)
  refine Zau rfl ?_
  refine Zaf ?_
  refine Zag ?_
  iterate 3 refine Zab ?_
  refine Zak rfl (fun _=>rfl) rfl rfl rfl ?_
  refine Zab ?_
  refine Zad rfl (ZaM rfl rfl rfl rfl rfl rfl rfl hc ?_)
  refine Zaa rfl rfl ?_
  refine Zad rfl (Zcl rfl rfl rfl rfl rfl gy rfl rfl rfl ?_)
  refine Zau rfl ?_
  refine Zaf ?_
  cases h2:decide ((k:Int)<(ine.length:Int))with
  |false=>
   refine Zag ?_
   iterate 4 refine Zab ?_
   refine Zaf ?_
   refine brF h2 ?_
   refine Zag ?_
   iterate 2 refine Zab ?_
   refine Zak rfl (fun _=>rfl) rfl rfl rfl ?_
   iterate 2 refine Zab ?_
   refine Zaf ?_
   refine Zag ?_
   iterate 2 refine Zab ?_
   refine Zaf ?_
   exact next 10 (by decide) (ZaI [0,1] ⟨rfl,rfl,congrArg (fun z=>some (SM.row WC z true)) eset,rfl,trivial⟩ (by decide) ⟨rfl,ZaA,rfl,ZaA,rfl,ZaZ (by show 0<2;omega),rfl,ZaA,rfl,ZaY (by show 1<2;omega),rfl,ZaA,wd',ZaA,rfl,ZaA,rfl,ZaA,w1,ZaA,trivial⟩)
  |true=>
   obtain⟨p,gp0,gp⟩:=Zhq (l:=ine) (i:=k) (by have:=of_decide_eq_true h2;omega)
   have hC:=Zyk p 1 50 (by decide) (by decide) (by decide)
   have gz:((D++List.replicate (ZbG m-k) zW).set (0+(k:Int).toNat) (10,0,0,x.2.2,[48]))[0+(k:Int).toNat]? =some (10,0,0,x.2.2,[48]):=by rw[eset,ek];exact ZtU hl
   refine Zag ?_
   iterate 4 refine Zab ?_
   refine Zaf ?_
   refine brT h2 ?_
   refine Zag ?_
   iterate 4 refine Zab ?_
   refine Zb4 rfl (fun _=>rfl) (Int.natCast_nonneg k) gp rfl rfl ?_
   refine Zab ?_
   refine Zad rfl ((hC).mono ?_)
   rintro _ ⟨v,rfl,v1,v2⟩
   refine Zaa rfl rfl ?_
   refine Zad rfl (ZaM rfl rfl rfl rfl rfl rfl rfl hc ?_)
   refine Zaa rfl rfl ?_
   refine Zab ?_
   refine Zad rfl (Zcl rfl rfl rfl rfl rfl gz rfl rfl rfl ?_)
   refine Zau rfl ?_
   refine Zaf ?_
   have eset2:((D++List.replicate (ZbG m-k) zW).set (0+(k:Int).toNat) (10,0,0,x.2.2,[48])).set (0+(k:Int).toNat) (v,0,0,x.2.2,[48])=(D++ [(v,0,0,x.2.2,[48])])++List.replicate (ZbG m-(k+1)) zW:=by rw[eset,ek];exact Ztu hl
   refine Zag ?_
   iterate 2 refine Zab ?_
   refine Zak rfl (fun _=>rfl) rfl rfl rfl ?_
   iterate 2 refine Zab ?_
   refine Zaf ?_
   refine Zag ?_
   iterate 2 refine Zab ?_
   refine Zaf ?_
   exact next v ⟨v1,v2⟩ (ZaI [0,1] ⟨rfl,rfl,congrArg (fun z=>some (SM.row WC z true)) eset2,rfl,trivial⟩ (by decide) ⟨rfl,ZaA,rfl,ZaA,rfl,ZaZ (by show 0<2;omega),rfl,ZaA,rfl,ZaY (by show 1<2;omega),rfl,ZaA,wd',ZaA,rfl,ZaA,rfl,ZaA,w1,ZaA,trivial⟩)
theorem ZhK: ∀ {A:List W5},(∀a∈A,Isl 0 a)→sup A=0
 | [],_=>rfl
 |a::r,h=>by
  have h1:=h a List.mem_cons_self
  have h2:=ZhK (A:=r) fun b hb=>h b (List.mem_cons_of_mem _ hb)
  obtain⟨_,_,h3,_⟩:=h1
  rw[sup]at h2⊢
  rw[List.map_cons,List.sum_cons,h2]
  omega
set_option maxHeartbeats 16000000 in
theorem ZyX (m:Ne.Net) (hf:Fine m) (pw:List Int) (d:Int) (dl:List Int) (A0:List W5) (h0:A0.length=ZbG m) (hI0: ∀a∈A0,Isl 0 a) (hd0:dmd A0=dl):LoopOK Tryz.prog Zao 0 ⟨3,0,219⟩ (Zbw Tryz.f3 22) (zL2 m pw 0 d 0) (hL m A0)
 (fun e tm hp=>e= .exit 2∧ ∃A:List W5,A.length=ZbG m∧(∀a∈A,Isl 2000 a)∧dmd A=dl∧0≤sup A∧sup A≤2000∧Ent 0 tm hp [(13, .ref 1 0 (ZbG m) none),(14, .v IC (sup A)),(15, .v IC d)] (hL m A)):=by
 obtain⟨b1,_,_,b4,_⟩:=Zbl hf
 have hm:=(Zd5 m).2
 have hn:=(Ziw m).2
 refine Zaz Zah rfl (fun(a:Nat×List W5)=>zL2 m pw (sup a.2) d a.1) (fun a=>hL m a.2) (fun a=>a.1≤m.gens.length∧a.2.length=ZbG m∧(∀x∈a.2,Isl (200*(a.1:Int)) x)∧dmd a.2=dl∧0≤sup a.2∧sup a.2≤200*(a.1:Int)) (fun a=>m.gens.length-a.1) ?_ (0,A0) ⟨Nat.zero_le _,h0,hI0,hd0, ?_, ?_⟩ ?_
 case refine_4=>
  have e:sup A0=0:=ZhK hI0
  exact Zaq ⟨rfl,rfl,rfl,rfl,congrArg (fun z=>some (SV.v IC z)) e.symm,rfl,rfl,rfl,rfl,trivial⟩
 case refine_2=>rw[ZhK hI0];exact Int.le_refl 0
 case refine_3=>rw[ZhK hI0];exact Int.le_refl 0
 rintro⟨k,A⟩ ⟨hk,hl,hI,hD,hs0,hs1⟩
 simp only at hk hl hI hD hs0 hs1
 cases h1:decide ((k:Int)<(m.gens.length:Int))with
 |false=>
  refine Zag ?_
  refine Zab ?_
  refine Zaf ?_
  refine brF h1 ?_
  exact⟨rfl,A,hl,fun a ha=>by obtain⟨q1,q2,q3,q4⟩:=hI a ha;exact⟨q1,q2,by omega,q4⟩,hD,hs0,by omega,Zaq ⟨rfl,rfl,rfl,trivial⟩⟩
 |true=>
  have hlt:k<m.gens.length:=by have:=of_decide_eq_true h1;omega
  obtain⟨x,gx0,gx⟩:=Zhq (l:=m.gens) (i:=k) hlt
  have hx:=(ZuX hf (List.mem_of_getElem? gx0)).2.1
  have hI':=Zff m.nodes x.2.1 (by omega)
  rw[(Zgf hx).1]at hI'
  have hI:=hI
  have hj:=(ZeK (Zdr hx).2).2
  have hc:(0:Int)≤((iAt m x.2.1:Nat):Int)∧((iAt m x.2.1:Nat):Int)<((ZbG m:Nat):Int):=cin hj
  have hng:decide (((plN m x.2.1:Nat):Int)<0)=false:=decide_eq_false (by omega)
  have gp:(ZbF m)[((plN m x.2.1:Nat):Int).toNat]? =some ((iAt m x.2.1:Nat):Int):=by rw[Int.toNat_natCast];exact Znv hx
  have hge:decide (((ZbG m:Nat):Int)≤((iAt m x.2.1:Nat):Int))=false:=decide_eq_false (by omega)
  obtain⟨J,hJ⟩: ∃J,0+((iAt m x.2.1:Nat):Int).toNat=J:=⟨_,rfl⟩
  have hJl:J<A.length:=by rw[←hJ,hl,Int.toNat_natCast,Nat.zero_add];exact hj
  have gs:A[0+((iAt m x.2.1:Nat):Int).toNat]? =some A[J]:=by rw[hJ];exact List.getElem?_eq_getElem hJl
  have gJ:=List.getElem?_eq_getElem hJl
  have hy0:=hI _ (List.getElem_mem hJl)
  obtain⟨⟨I,Z,Su,De,fr⟩,hy⟩: ∃y,A[J]=y:=⟨_,rfl⟩
  rw[hy]at gs hy0 gJ
  obtain⟨y1,y2,y3,y4,y5⟩:=hy0
  simp only at y1 y2 y3 y4 y5
  have w1:=congrArg (fun x=>some (SV.v (.i .i64) x)) (Zc6 (k:=k) (by omega))
  have next: ∀ {tm:TM} {hp:List SM} (p:Int),0≤p∧p≤200→Ent 0 tm hp (zL2 m pw (IntKind.i64.wrap (sup A+p)) d (k+1)) (hL m (A.set (0+((iAt m x.2.1:Nat):Int).toNat) (I,Z,IntKind.i64.wrap (Su+p),De,fr)))→ ∃a':Nat×List W5,(a'.1≤m.gens.length∧a'.2.length=ZbG m∧(∀x∈a'.2,Isl (200*(a'.1:Int)) x)∧dmd a'.2=dl∧0≤sup a'.2∧sup a'.2≤200*(a'.1:Int))∧m.gens.length-a'.1<m.gens.length-k∧Ent 0 tm hp (zL2 m pw (sup a'.2) d a'.1) (hL m a'.2):=by
   intro tm hp p hp0 hE
   have e1:IntKind.i64.wrap (Su+p)=Su+p:=Zar (by omega) (by omega)
   have e2:IntKind.i64.wrap (sup A+p)=sup A+p:=Zar (by omega) (by omega)
   have es:sup (A.set J (I,Z,Su+p,De,fr))=sup A+p:=by
    rw[sup,List.map_set]
    have g:(A.map fun a=>a.2.2.1)[J]? =some Su:=by rw[List.getElem?_map,gJ];rfl
    show((A.map fun a=>a.2.2.1).set J (Su+p)).sum=_
    rw[ZnK g,sup];omega
   rw[e1,e2,hJ]at hE
   refine⟨(k+1,A.set J (I,Z,Su+p,De,fr)),⟨hlt,by rw[List.length_set];exact hl,fun a ha=> ?_, ?_,by rw[es];omega,by rw[es];show sup A+p≤200*((k+1:Nat):Int);omega⟩,by show m.gens.length-(k+1)<m.gens.length-k;omega, ?_⟩
   ·rcases List.mem_or_eq_of_mem_set ha with h|h
    ·obtain⟨q1,q2,q3,q4⟩:=hI a h
     exact⟨q1,q2,by show _∧_≤200*((k+1:Nat):Int);omega,q4⟩
    ·rw[h];exact⟨y1,y2,by show 0≤Su+p∧Su+p≤200*((k+1:Nat):Int);omega,y4,y5⟩
   ·rw[dmd,List.map_set]
    show(dmd A).set J De=dl
    rw[ZoS (by rw[Za5,dmd,List.getElem?_map,gJ];rfl)]
    exact hD
   ·show Ent 0 tm hp (zL2 m pw (sup (A.set J (I,Z,Su+p,De,fr))) d (k+1)) _
    rw[es];exact hE
  have hI:=hI'
  refine Zag ?_
  refine Zab ?_
  refine Zaf ?_
  refine brT h1 ?_
  refine Zag ?_
  refine Zab ?_
  refine Zb4 rfl (fun _=>rfl) (Int.natCast_nonneg k) gx rfl rfl ?_
  refine Zab ?_
  refine Zbq ?_
  refine Zab ?_
  refine Zad rfl (Zax rfl rfl rfl rfl rfl rfl rfl rfl ?_)
  refine Zau rfl ?_
  refine Zaf ?_
  refine Zag ?_
  refine Zab ?_
  refine Zaf ?_
  cases h2:decide ((k:Int)<(pw.length:Int))with
  |false=>
   have hpp:(0:Int)≤0∧(0:Int)≤200:=by decide
   refine Zag ?_
   iterate 4 refine Zab ?_
   refine Zaf ?_
   refine brF h2 ?_
   refine Zag ?_
   refine Zab ?_
   refine Zak rfl (fun _=>rfl) rfl rfl rfl ?_
   refine Zab ?_
   refine Zak rfl (fun _=>rfl) rfl rfl rfl ?_
   refine Zad rfl ((hI).mono ?_)
   rintro _ rfl
   refine Zaa rfl rfl ?_
   refine Zab ?_
   refine Zaf ?_
   refine Zag ?_
   iterate 3 refine Zab ?_
   refine Zac hng ?_
   refine Zac hng ?_
   refine Zmz rfl rfl rfl hng (fun _=>rfl) (Int.natCast_nonneg _) gp rfl rfl ?_
   refine Zac hng ?_
   refine Zac hng ?_
   refine Zac hng ?_
   refine Zac hng ?_
   refine Zat hng ?_
   refine Zaf ?_
   refine brF hge ?_
   refine Zag ?_
   iterate 3 refine Zab ?_
   refine Zb4 rfl (fun _=>rfl) (Int.natCast_nonneg _) gp rfl rfl ?_
   refine Zab ?_
   refine Zad rfl (ZaM rfl rfl rfl rfl rfl rfl rfl hc ?_)
   refine Zaa rfl rfl ?_
   refine Zab ?_
   refine Zad rfl (Zbb rfl rfl rfl gs rfl ?_)
   refine Zaa rfl rfl ?_
   iterate 2 refine Zab ?_
   refine Zad rfl (ZaM rfl rfl rfl rfl rfl rfl rfl hc ?_)
   refine Zaa rfl rfl ?_
   refine Zab ?_
   refine Zad rfl (Zcl rfl rfl rfl rfl rfl gs rfl rfl rfl ?_)
   refine Zau rfl ?_
   refine Zaf ?_
   refine Zag ?_
   iterate 4 refine Zab ?_
   refine Zaf ?_
   refine Zag ?_
   iterate 2 refine Zab ?_
   refine Zaf ?_
   exact next 0 hpp (ZaI [0,1] ⟨rfl,rfl,rfl,rfl,trivial⟩ (by decide) ⟨rfl,ZaA,rfl,ZaZ (by show 0<2;omega),rfl,ZaA,rfl,ZaY (by show 1<2;omega),rfl,ZaA,rfl,ZaA,rfl,ZaA,rfl,ZaA,w1,ZaA,trivial⟩)
  |true=>
   obtain⟨q,gq0,gq⟩:=Zhq (l:=pw) (i:=k) (by have:=of_decide_eq_true h2;omega)
   have hC:=Zyk q 0 200 (by decide) (by decide) (by decide)
   refine Zag ?_
   iterate 4 refine Zab ?_
   refine Zaf ?_
   refine brT h2 ?_
   refine Zag ?_
   iterate 2 refine Zab ?_
   refine Zb4 rfl (fun _=>rfl) (Int.natCast_nonneg k) gq rfl rfl ?_
   refine Zab ?_
   refine Zad rfl ((hC).mono ?_)
   rintro _ ⟨v,rfl,v1,v2⟩
   refine Zaa rfl rfl ?_
   refine Zab ?_
   refine Zaf ?_
   have hpp:(0:Int)≤v∧v≤200:=⟨v1,v2⟩
   refine Zag ?_
   refine Zab ?_
   refine Zak rfl (fun _=>rfl) rfl rfl rfl ?_
   refine Zab ?_
   refine Zak rfl (fun _=>rfl) rfl rfl rfl ?_
   refine Zad rfl ((hI).mono ?_)
   rintro _ rfl
   refine Zaa rfl rfl ?_
   refine Zab ?_
   refine Zaf ?_
   refine Zag ?_
   iterate 3 refine Zab ?_
   refine Zac hng ?_
   refine Zac hng ?_
   refine Zmz rfl rfl rfl hng (fun _=>rfl) (Int.natCast_nonneg _) gp rfl rfl ?_
   refine Zac hng ?_
   refine Zac hng ?_
   refine Zac hng ?_
   refine Zac hng ?_
   refine Zat hng ?_
   refine Zaf ?_
   refine brF hge ?_
   refine Zag ?_
   iterate 3 refine Zab ?_
   refine Zb4 rfl (fun _=>rfl) (Int.natCast_nonneg _) gp rfl rfl ?_
   refine Zab ?_
   refine Zad rfl (ZaM rfl rfl rfl rfl rfl rfl rfl hc ?_)
   refine Zaa rfl rfl ?_
   refine Zab ?_
   refine Zad rfl (Zbb rfl rfl rfl gs rfl ?_)
   refine Zaa rfl rfl ?_
   iterate 2 refine Zab ?_
   refine Zad rfl (ZaM rfl rfl rfl rfl rfl rfl rfl hc ?_)
   refine Zaa rfl rfl ?_
   refine Zab ?_
   refine Zad rfl (Zcl rfl rfl rfl rfl rfl gs rfl rfl rfl ?_)
   refine Zau rfl ?_
   refine Zaf ?_
   refine Zag ?_
   iterate 4 refine Zab ?_
   refine Zaf ?_
   refine Zag ?_
   iterate 2 refine Zab ?_
   refine Zaf ?_
   exact next v hpp (ZaI [0,1] ⟨rfl,rfl,rfl,rfl,trivial⟩ (by decide) ⟨rfl,ZaA,rfl,ZaZ (by show 0<2;omega),rfl,ZaA,rfl,ZaY (by show 1<2;omega),rfl,ZaA,rfl,ZaA,rfl,ZaA,rfl,ZaA,w1,ZaA,trivial⟩)
end Go.Proofs.YtkhpbclcfldhmaaGreatDoor
