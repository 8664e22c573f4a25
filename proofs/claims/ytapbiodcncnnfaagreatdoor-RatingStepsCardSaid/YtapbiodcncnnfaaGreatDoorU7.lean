/- The reference's list of a network's devices. (Printed by tools/genitems.py.) -/
import Derived.Test.YtapbiodcncnnfaaGreatDoorRc
import Derived.Shelf.LaysM
import Derived.Shelf.Strconv.Itoa1
import Derived.Shelf.Strconv.Itoa2
import Derived.Shelf.Strings.BuilderK
import Derived.Shelf.Small.Bits
import Derived.Shelf.Strings.Search3
import Derived.Shelf.Pu.ParseUintPublic10
import Derived.Ground.FneProg
import Derived.Ground.MpProg
set_option linter.all false
set_option maxHeartbeats 64000000
set_option maxRecDepth 100000
namespace Go.Proofs.YtapbiodcncnnfaaGreatDoor
open Go.Am Go.Tx Ne
theorem ZuZ {F:Nat} {hp:List SM} {tm:TM} {k:Nat} {ct:CT} {tm':TM} (hF:F≤hp.length) (hk:ZcD k tm=some .nils) (ab: ∀i V,i≠k→ZcD i tm'=some V→ZcD i tm=some V) (ad:ZcD k tm'=some (.ref hp.length 0 0 none)):Ent F tm hp tm' (hp++ [.row ct [] true]):=by
 refine⟨fun φ st af hs=> ?_⟩
 have hlen:=hs.hp.len
 have ext: ∀id,id<hp.length→(φ++ [none])[id]? =φ[id]? :=fun id h=>Xar (by omega)
 have le:Le φ (φ++ [none]):=fun id o h=>by rw[Xar (Xae.1 h).1];exact h
 have new:(φ++ [(none:Option Nat)])[hp.length]? =some none:=by rw[XaE (by omega),hlen,Nat.sub_self];rfl
 refine⟨φ++ [none],fun id hid=>ext id (by omega), ?_, ?_⟩
 ·intro i V hV
  by_cases e:i=k
  ·subst e
   rw[ad]at hV;cases hV
   obtain⟨q,I,J⟩:=hs.tm _ _ hk
   refine⟨q,I, ?_⟩
   simp only[RV]at J⊢
   subst J
   exact .inr ⟨new,rfl,trivial,trivial,rfl⟩
  ·obtain⟨q,I,J⟩:=hs.tm _ _ (ab i V e hV)
   exact⟨q,I,RV.mono le _ _ J⟩
 ·refine⟨by simp[hlen], ?_, ?_⟩
  ·intro id sm o j ho
   by_cases hid:id<hp.length
   ·rw[Xar hid]at j
    rw[ext id hid]at ho
    exact RM.mono le (fun _ _ _=>rfl) (hs.hp.row id sm o j ho)
   ·have C:=(Xae.1 j).1
    simp at C
    have e:id=hp.length:=by omega
    subst e
    rw[XaE (Xan _),Nat.sub_self]at j
    cases j
    rw[new]at ho;cases ho
    rfl
  ·intro id R sm aa a ae I J h3 h4 U h6
   have lt: ∀id sm,(hp++ [SM.row ct [] true])[id]? =some sm→(φ++ [none])[id]? =some (some a)→id<hp.length:=by
    intro id sm I U
    rcases XaO id hp.length with h|h
    ·exact h
    ·have C:=(Xae.1 I).1
     simp at C
     have e:id=hp.length:=by omega
     subst e
     rw[new]at U;cases U
   have l1:=lt id sm I U
   have l2:=lt R aa J h6
   rw[Xar l1]at I
   rw[Xar l2]at J
   rw[ext id l1]at U
   rw[ext R l2]at h6
   exact hs.hp.inj id R sm aa a ae I J h3 h4 U h6
abbrev ZgI:CT:= .p .s (.p (.l .s) (.p .b .b))
theorem Zc1 {hp:List SM} {id j w:Nat} {name:Txt} {ns:List Txt} {C b2 m m2:Bool} {k:SV→Prop} (I:nth hp id=some (.cell [.v .s name, .ref j 0 w none, .v .b C, .v .b b2] m)) (J:nth hp j=some (.row .s ns m2)) (hw:ns.length=w) (R:k (.v (.l ZgI) [(name,ns,C,b2)])):Zjq hp 40 (.ref id 0 1 none) k:=by
 simp only[Zjq,I,ZgF,J]
 refine⟨by simp,⟨by omega, ?_⟩⟩
 rw[ZcE hw]
 exact⟨ZgI,(name,ns,C,b2),rfl,R⟩
theorem Za2 {hp:List SM} {id j w:Nat} {name:Txt} {ns:List Txt} {C b2 m m2:Bool} (I:nth hp id=some (.cell [.v .s name, .ref j 0 w none, .v .b C, .v .b b2] m)) (J:nth hp j=some (.row .s ns m2)):Zh7 hp 40 (.ref id 0 1 none)=[id,j]:=by
 simp only[Zh7,I,J,Xbu,List.flatMap_nil,XaF,List.nil_append]
def hI (j:List SV) (acc:List Ne.Item):List SM:=[.cell j true, .row ZgI acc true]
theorem Zd9 {H:List SM} {C:List SV} {acc:List Ne.Item} {x:SM} {y:SM} {z:SM} {i1:Nat} {I:List Ne.Item} {tm tm':TM} (R:rchL C=[])
 (U:nth H i1=some (.row ZgI I true)) (q2: ∀j,j≠1→j ∉ [4,3]→j<5→nth H j=nth [SM.cell C true, .row ZgI acc true,x,y,z] j) (q3:5≤i1)
 (J:Zwy (fun j=> [0,i1].getD j 0) 2 tm tm'):Ent 0 tm H tm' (hI C I):=by
 refine Zvg [0,i1] ⟨q2 0 (by decide) (by decide) (by decide),R,U,rfl,trivial⟩ (by simp;omega) J
def wSw (l:List Sw) (n i:Nat):TM:=[(1, .ptr 0 0 0),(3, .ref 1 0 n none),(15, .v (.l ZlD) l),(16,nt l.length),(17,nt i)]
theorem ZvT (C:List SV) (acc:List Ne.Item) (l:List Sw) (hr:rchL C=[]) (ha:acc.length≤1000) (hl:l.length≤1000):
 LoopOK Tryz.prog Zao 0 ⟨23,0,145⟩ (Za4 Tryz.f23 3) (wSw l acc.length 0) (hI C acc)
 (fun e tm hp'=>e= .exit 0∧Ent 0 tm hp' [(1, .ptr 0 0 0),(3, .ref 1 0 (acc++l.map Ne.swI).length none)] (hI C (acc++l.map Ne.swI))):=by
 refine Zaw Zag rfl (fun i=>wSw l (acc++(l.take i).map Ne.swI).length i) (fun i=>hI C (acc++(l.take i).map Ne.swI)) (fun i=>i≤l.length) (fun i=>l.length-i) ?_ 0 (Xao _) ?_
 case refine_2=>
  have e0:acc++(l.take 0).map Ne.swI=acc:=by rw[Xa5,Xa3,XaF]
  rw[e0];exact ZaJ
 rintro i hi
 cases R:decide ((i:Int)<(l.length:Int))with
 |false=>
  have e:i=l.length:=by have:=of_decide_eq_false R;omega
  refine Zae ?_
  refine Zac ?_
  refine Zaf ?_
  refine brF R ?_
  refine⟨rfl, ?_⟩
  rw[e,XaC]
  exact Zaq ⟨rfl,rfl,trivial⟩
 |true=>
  have J:i<l.length:=by have:=of_decide_eq_true R;omega
  have gx:l[(i:Int).toNat]? =some l[i]:=by rw[Xad];exact Xac J
  have I:acc++(l.take (i+1)).map Ne.swI=(acc++(l.take i).map Ne.swI)++ [Ne.swI l[i]]:=by
   rw[List.take_add_one,Xac J,XbM,Xbn];rfl
  have hlen:(acc++(l.take i).map Ne.swI).length≤2000:=by rw[Xaw,Xa0,Xas];omega
  obtain⟨x,ex⟩: ∃x,l[i]=x:=⟨_,rfl⟩
  obtain⟨ac,ea⟩: ∃ac,acc++(l.take i).map Ne.swI=ac:=⟨_,rfl⟩
  rw[ex]at gx I
  rw[ea]at hlen I
  rw[ea]
  have zC:(ac.length+1)*48≤140737488355328:=by omega
  have hL:(ac++ [Ne.swI x]).length=ac.length+1:=by rw[Xaw];rfl
  refine Zae ?_
  refine Zac ?_
  refine Zaf ?_
  refine brT R ?_
  refine Zae ?_
  refine Zbb rfl (fun _=>rfl) (Xaj i) gx rfl rfl ?_
  refine Zac ?_
  refine ZbB ?_
  refine Zad rfl (ZaP rfl rfl rfl rfl rfl rfl rfl rfl ?_)
  refine ZaC rfl ?_
  refine Zaf ?_
  refine Zae ?_
  iterate 2 refine Zac ?_
  refine Zap rfl (fun _=>rfl) rfl rfl rfl ?_
  refine Zac ?_
  refine Zap rfl (fun _=>rfl) rfl rfl rfl ?_
  refine Zac ?_
  refine Zap rfl (fun _=>rfl) rfl rfl rfl ?_
  refine ZbB ?_
  refine Zac ?_
  refine ZbB ?_
  refine Zad rfl (Zer (ct:=ZgI) (l:=ac) rfl rfl rfl rfl rfl rfl rfl rfl rfl (fun kk hk=>Zc1 rfl rfl rfl hk) (by rw[Za2 rfl rfl];show 1 ∉ [4,3];decide) rfl rfl zC (fun i1 H1 U q2 q3=> ?_))
  refine Zaa rfl rfl ?_
  refine Zac ?_
  refine Zaf ?_
  refine Zae ?_
  iterate 2 refine Zac ?_
  refine Zaf ?_
  refine⟨i+1,J,by show l.length-(i+1)<l.length-i;omega, ?_⟩
  have eI:((x.1,[x.2.1,x.2.2.1],true,false):Ne.Item)=Ne.swI x:=rfl
  have U:nth H1 i1=some (SM.row ZgI (ac++ [((x.1,[x.2.1,x.2.2.1],true,false):Ne.Item)]) true):=U
  rw[eI]at U
  show Ent 0 _ H1 (wSw l (acc++(l.take (i+1)).map Ne.swI).length (i+1)) (hI C (acc++(l.take (i+1)).map Ne.swI))
  rw[I,hL]
  exact Zd9 hr U (fun j a1 a2 a3=>q2 j a1 (by rw[Za2 rfl rfl];exact a2) a3) q3 ⟨rfl,ZbG (by show 0<2;omega),rfl,Zgk (by show 1<2;omega),rfl,ZcA,rfl,ZcA,congrArg (fun x=>some (SV.v (.i .i64) x)) (Zca (by omega)),ZcA,trivial⟩
def wBr (l:List Br) (n i:Nat):TM:=[(1, .ptr 0 0 0),(3, .ref 1 0 n none),(34, .v (.l Zhx) l),(35,nt l.length),(36,nt i)]
theorem Zvd (C:List SV) (acc:List Ne.Item) (l:List Br) (hr:rchL C=[]) (ha:acc.length≤1000) (hl:l.length≤1000):
 LoopOK Tryz.prog Zao 0 ⟨23,0,145⟩ (Za4 Tryz.f23 8) (wBr l acc.length 0) (hI C acc)
 (fun e tm hp'=>e= .exit 2∧Ent 0 tm hp' [(1, .ptr 0 0 0),(3, .ref 1 0 (acc++l.map brI).length none)] (hI C (acc++l.map brI))):=by
 refine Zaw Zag rfl (fun i=>wBr l (acc++(l.take i).map brI).length i) (fun i=>hI C (acc++(l.take i).map brI)) (fun i=>i≤l.length) (fun i=>l.length-i) ?_ 0 (Xao _) ?_
 case refine_2=>
  have e0:acc++(l.take 0).map brI=acc:=by rw[Xa5,Xa3,XaF]
  rw[e0];exact ZaJ
 rintro i hi
 cases R:decide ((i:Int)<(l.length:Int))with
 |false=>
  have e:i=l.length:=by have:=of_decide_eq_false R;omega
  refine Zae ?_
  refine Zac ?_
  refine Zaf ?_
  refine brF R ?_
  refine⟨rfl, ?_⟩
  rw[e,XaC]
  exact Zaq ⟨rfl,rfl,trivial⟩
 |true=>
  have J:i<l.length:=by have:=of_decide_eq_true R;omega
  have gx:l[(i:Int).toNat]? =some l[i]:=by rw[Xad];exact Xac J
  have I:acc++(l.take (i+1)).map brI=(acc++(l.take i).map brI)++ [brI l[i]]:=by
   rw[List.take_add_one,Xac J,XbM,Xbn];rfl
  have hlen:(acc++(l.take i).map brI).length≤2000:=by rw[Xaw,Xa0,Xas];omega
  obtain⟨x,ex⟩: ∃x,l[i]=x:=⟨_,rfl⟩
  obtain⟨ac,ea⟩: ∃ac,acc++(l.take i).map brI=ac:=⟨_,rfl⟩
  rw[ex]at gx I
  rw[ea]at hlen I
  rw[ea]
  have zC:(ac.length+1)*48≤140737488355328:=by omega
  have hL:(ac++ [brI x]).length=ac.length+1:=by rw[Xaw];rfl
  refine Zae ?_
  refine Zac ?_
  refine Zaf ?_
  refine brT R ?_
  refine Zae ?_
  refine Zbb rfl (fun _=>rfl) (Xaj i) gx rfl rfl ?_
  refine Zac ?_
  refine ZbB ?_
  refine Zad rfl (ZaP rfl rfl rfl rfl rfl rfl rfl rfl ?_)
  refine ZaC rfl ?_
  refine Zaf ?_
  have p1:=Zk7 x
  refine Zae ?_
  iterate 2 refine Zac ?_
  refine Zap rfl (fun _=>rfl) rfl rfl rfl ?_
  refine Zac ?_
  refine Zap rfl (fun _=>rfl) rfl rfl rfl ?_
  refine Zac ?_
  refine Zap rfl (fun _=>rfl) rfl rfl rfl ?_
  refine ZbB ?_
  refine Zap rfl (fun _=>rfl) rfl rfl rfl ?_
  refine Zad rfl ((p1).mono ?_)
  rintro _ rfl
  refine Zaa rfl rfl ?_
  iterate 2 refine Zac ?_
  refine ZbB ?_
  refine Zad rfl (Zer (ct:=ZgI) (l:=ac) rfl rfl rfl rfl rfl rfl rfl rfl rfl (fun kk hk=>Zc1 rfl rfl rfl hk) (by rw[Za2 rfl rfl];show 1 ∉ [4,3];decide) rfl rfl zC (fun i1 H1 U q2 q3=> ?_))
  refine Zaa rfl rfl ?_
  refine Zac ?_
  refine Zaf ?_
  refine Zae ?_
  iterate 2 refine Zac ?_
  refine Zaf ?_
  refine⟨i+1,J,by show l.length-(i+1)<l.length-i;omega, ?_⟩
  have eI:((x.1,[x.2.1,x.2.2.1],true, !decide ((bif ZhW x then(4:Int)else 0)=0)):Ne.Item)=brI x:=(by unfold brI;cases ZhW x<;>rfl)
  have U:nth H1 i1=some (SM.row ZgI (ac++ [((x.1,[x.2.1,x.2.2.1],true, !decide ((bif ZhW x then(4:Int)else 0)=0)):Ne.Item)]) true):=U
  rw[eI]at U
  show Ent 0 _ H1 (wBr l (acc++(l.take (i+1)).map brI).length (i+1)) (hI C (acc++(l.take (i+1)).map brI))
  rw[I,hL]
  exact Zd9 hr U (fun j a1 a2 a3=>q2 j a1 (by rw[Za2 rfl rfl];exact a2) a3) q3 ⟨rfl,ZbG (by show 0<2;omega),rfl,Zgk (by show 1<2;omega),rfl,ZcA,rfl,ZcA,congrArg (fun x=>some (SV.v (.i .i64) x)) (Zca (by omega)),ZcA,trivial⟩
def wGe (l:List Ge) (n i:Nat):TM:=[(1, .ptr 0 0 0),(3, .ref 1 0 n none),(56, .v (.l (.p .s (.p .s (.p (.i .i64) (.p (.i .i64) (.i .i64)))))) l),(57,nt l.length),(58,nt i)]
theorem Zvr (C:List SV) (acc:List Ne.Item) (l:List Ge) (hr:rchL C=[]) (ha:acc.length≤1000) (hl:l.length≤1000):
 LoopOK Tryz.prog Zao 0 ⟨23,0,145⟩ (Za4 Tryz.f23 13) (wGe l acc.length 0) (hI C acc)
 (fun e tm hp'=>e= .exit 4∧Ent 0 tm hp' [(1, .ptr 0 0 0),(3, .ref 1 0 (acc++l.map geI).length none)] (hI C (acc++l.map geI))):=by
 refine Zaw Zag rfl (fun i=>wGe l (acc++(l.take i).map geI).length i) (fun i=>hI C (acc++(l.take i).map geI)) (fun i=>i≤l.length) (fun i=>l.length-i) ?_ 0 (Xao _) ?_
 case refine_2=>
  have e0:acc++(l.take 0).map geI=acc:=by rw[Xa5,Xa3,XaF]
  rw[e0];exact ZaJ
 rintro i hi
 cases h1:decide ((i:Int)<(l.length:Int))with
 |false=>
  have e:i=l.length:=by have:=of_decide_eq_false h1;omega
  refine Zae ?_
  refine Zac ?_
  refine Zaf ?_
  refine brF h1 ?_
  refine⟨rfl, ?_⟩
  rw[e,XaC]
  exact Zaq ⟨rfl,rfl,trivial⟩
 |true=>
  have R:i<l.length:=by have:=of_decide_eq_true h1;omega
  have gx:l[(i:Int).toNat]? =some l[i]:=by rw[Xad];exact Xac R
  have I:acc++(l.take (i+1)).map geI=(acc++(l.take i).map geI)++ [geI l[i]]:=by
   rw[List.take_add_one,Xac R,XbM,Xbn];rfl
  have hlen:(acc++(l.take i).map geI).length≤2000:=by rw[Xaw,Xa0,Xas];omega
  obtain⟨x,ex⟩: ∃x,l[i]=x:=⟨_,rfl⟩
  obtain⟨ac,ea⟩: ∃ac,acc++(l.take i).map geI=ac:=⟨_,rfl⟩
  rw[ex]at gx I
  rw[ea]at hlen I
  rw[ea]
  have zC:(ac.length+1)*48≤140737488355328:=by omega
  have hL:(ac++ [geI x]).length=ac.length+1:=by rw[Xaw];rfl
  refine Zae ?_
  refine Zac ?_
  refine Zaf ?_
  refine brT h1 ?_
  refine Zae ?_
  refine Zbb rfl (fun _=>rfl) (Xaj i) gx rfl rfl ?_
  refine Zac ?_
  refine ZbB ?_
  refine Zad rfl (ZaP rfl rfl rfl rfl rfl rfl rfl rfl ?_)
  refine ZaC rfl ?_
  refine Zaf ?_
  have U:=ZgZ x.2.2.1 0 100000
  have p2:=ZgZ x.2.2.2.1 x.2.2.1 100000
  have p3:=ZgZ x.2.2.2.2 0 100000
  cases c1:inR x.2.2.1 0 100000 with
  |false=>
   rw[c1]at U
   refine Zae ?_
   iterate 2 refine Zac ?_
   refine Zap rfl (fun _=>rfl) rfl rfl rfl ?_
   refine Zac ?_
   refine Zap rfl (fun _=>rfl) rfl rfl rfl ?_
   refine ZbB ?_
   refine Zac ?_
   refine Zap rfl (fun _=>rfl) rfl rfl rfl ?_
   refine Zad rfl ((U).mono ?_)
   rintro _ rfl
   refine Zaa rfl rfl ?_
   iterate 2 refine Zac ?_
   refine Zah rfl ?_
   refine Zah rfl ?_
   refine Zah rfl ?_
   refine Zah rfl ?_
   refine Zah rfl ?_
   refine Zah rfl ?_
   refine Zat rfl ?_
   refine Zac ?_
   refine Zah rfl ?_
   refine Zah rfl ?_
   refine Zah rfl ?_
   refine Zah rfl ?_
   refine Zat rfl ?_
   refine Zac ?_
   refine ZbB ?_
   refine Zad rfl (Zer (ct:=ZgI) (l:=ac) rfl rfl rfl rfl rfl rfl rfl rfl rfl (fun kk hk=>Zc1 rfl rfl rfl hk) (by rw[Za2 rfl rfl];show 1 ∉ [4,3];decide) rfl rfl zC (fun i1 H1 J q2 q3=> ?_))
   refine Zaa rfl rfl ?_
   refine Zac ?_
   refine Zaf ?_
   refine Zae ?_
   iterate 2 refine Zac ?_
   refine Zaf ?_
   refine⟨i+1,R,by show l.length-(i+1)<l.length-i;omega, ?_⟩
   have eI:((x.1,[x.2.1],false,true):Ne.Item)=geI x:=(by rw[geI,c1];rfl)
   have J:nth H1 i1=some (SM.row ZgI (ac++ [((x.1,[x.2.1],false,true):Ne.Item)]) true):=J
   rw[eI]at J
   show Ent 0 _ H1 (wGe l (acc++(l.take (i+1)).map geI).length (i+1)) (hI C (acc++(l.take (i+1)).map geI))
   rw[I,hL]
   exact Zd9 hr J (fun j a1 a2 a3=>q2 j a1 (by rw[Za2 rfl rfl];exact a2) a3) q3 ⟨rfl,ZbG (by show 0<2;omega),rfl,Zgk (by show 1<2;omega),rfl,ZcA,rfl,ZcA,congrArg (fun x=>some (SV.v (.i .i64) x)) (Zca (by omega)),ZcA,trivial⟩
  |true=>
   rw[c1]at U
   cases c2:inR x.2.2.2.1 x.2.2.1 100000 with
   |false=>
    rw[c2]at p2
    refine Zae ?_
    iterate 2 refine Zac ?_
    refine Zap rfl (fun _=>rfl) rfl rfl rfl ?_
    refine Zac ?_
    refine Zap rfl (fun _=>rfl) rfl rfl rfl ?_
    refine ZbB ?_
    refine Zac ?_
    refine Zap rfl (fun _=>rfl) rfl rfl rfl ?_
    refine Zad rfl ((U).mono ?_)
    rintro _ rfl
    refine Zaa rfl rfl ?_
    iterate 2 refine Zac ?_
    refine Zab rfl ?_
    refine Zaj rfl rfl rfl rfl (fun _=>rfl) rfl rfl rfl ?_
    refine Zab rfl ?_
    refine Zaj rfl rfl rfl rfl (fun _=>rfl) rfl rfl rfl ?_
    refine Zam rfl rfl rfl rfl ((p2).mono ?_)
    rintro _ rfl
    refine Zaa rfl rfl ?_
    refine Zab rfl ?_
    refine Zal rfl ?_
    refine Zac ?_
    refine Zah rfl ?_
    refine Zah rfl ?_
    refine Zah rfl ?_
    refine Zah rfl ?_
    refine Zat rfl ?_
    refine Zac ?_
    refine ZbB ?_
    refine Zad rfl (Zer (ct:=ZgI) (l:=ac) rfl rfl rfl rfl rfl rfl rfl rfl rfl (fun kk hk=>Zc1 rfl rfl rfl hk) (by rw[Za2 rfl rfl];show 1 ∉ [4,3];decide) rfl rfl zC (fun i1 H1 J q2 q3=> ?_))
    refine Zaa rfl rfl ?_
    refine Zac ?_
    refine Zaf ?_
    refine Zae ?_
    iterate 2 refine Zac ?_
    refine Zaf ?_
    refine⟨i+1,R,by show l.length-(i+1)<l.length-i;omega, ?_⟩
    have eI:((x.1,[x.2.1],false,true):Ne.Item)=geI x:=(by rw[geI,c1,c2];rfl)
    have J:nth H1 i1=some (SM.row ZgI (ac++ [((x.1,[x.2.1],false,true):Ne.Item)]) true):=J
    rw[eI]at J
    show Ent 0 _ H1 (wGe l (acc++(l.take (i+1)).map geI).length (i+1)) (hI C (acc++(l.take (i+1)).map geI))
    rw[I,hL]
    exact Zd9 hr J (fun j a1 a2 a3=>q2 j a1 (by rw[Za2 rfl rfl];exact a2) a3) q3 ⟨rfl,ZbG (by show 0<2;omega),rfl,Zgk (by show 1<2;omega),rfl,ZcA,rfl,ZcA,congrArg (fun x=>some (SV.v (.i .i64) x)) (Zca (by omega)),ZcA,trivial⟩
   |true=>
    rw[c2]at p2
    refine Zae ?_
    iterate 2 refine Zac ?_
    refine Zap rfl (fun _=>rfl) rfl rfl rfl ?_
    refine Zac ?_
    refine Zap rfl (fun _=>rfl) rfl rfl rfl ?_
    refine ZbB ?_
    refine Zac ?_
    refine Zap rfl (fun _=>rfl) rfl rfl rfl ?_
    refine Zad rfl ((U).mono ?_)
    rintro _ rfl
    refine Zaa rfl rfl ?_
    iterate 2 refine Zac ?_
    refine Zab rfl ?_
    refine Zaj rfl rfl rfl rfl (fun _=>rfl) rfl rfl rfl ?_
    refine Zab rfl ?_
    refine Zaj rfl rfl rfl rfl (fun _=>rfl) rfl rfl rfl ?_
    refine Zam rfl rfl rfl rfl ((p2).mono ?_)
    rintro _ rfl
    refine Zaa rfl rfl ?_
    refine Zab rfl ?_
    refine Zal rfl ?_
    refine Zac ?_
    refine Zab rfl ?_
    refine Zaj rfl rfl rfl rfl (fun _=>rfl) rfl rfl rfl ?_
    refine Zam rfl rfl rfl rfl ((p3).mono ?_)
    rintro _ rfl
    refine Zaa rfl rfl ?_
    refine Zab rfl ?_
    refine Zal rfl ?_
    refine Zac ?_
    refine ZbB ?_
    refine Zad rfl (Zer (ct:=ZgI) (l:=ac) rfl rfl rfl rfl rfl rfl rfl rfl rfl (fun kk hk=>Zc1 rfl rfl rfl hk) (by rw[Za2 rfl rfl];show 1 ∉ [4,3];decide) rfl rfl zC (fun i1 H1 J q2 q3=> ?_))
    refine Zaa rfl rfl ?_
    refine Zac ?_
    refine Zaf ?_
    refine Zae ?_
    iterate 2 refine Zac ?_
    refine Zaf ?_
    refine⟨i+1,R,by show l.length-(i+1)<l.length-i;omega, ?_⟩
    have eI:((x.1,[x.2.1],false, !inR x.2.2.2.2 0 100000):Ne.Item)=geI x:=(by rw[geI,c1,c2];rfl)
    have J:nth H1 i1=some (SM.row ZgI (ac++ [((x.1,[x.2.1],false, !inR x.2.2.2.2 0 100000):Ne.Item)]) true):=J
    rw[eI]at J
    show Ent 0 _ H1 (wGe l (acc++(l.take (i+1)).map geI).length (i+1)) (hI C (acc++(l.take (i+1)).map geI))
    rw[I,hL]
    exact Zd9 hr J (fun j a1 a2 a3=>q2 j a1 (by rw[Za2 rfl rfl];exact a2) a3) q3 ⟨rfl,ZbG (by show 0<2;omega),rfl,Zgk (by show 1<2;omega),rfl,ZcA,rfl,ZcA,congrArg (fun x=>some (SV.v (.i .i64) x)) (Zca (by omega)),ZcA,trivial⟩
def wLo (l:List Lo) (n i:Nat):TM:=[(1, .ptr 0 0 0),(3, .ref 1 0 n none),(91, .v (.l (.p .s (.p .s (.i .i64)))) l),(92,nt l.length),(93,nt i)]
theorem Zux (C:List SV) (acc:List Ne.Item) (l:List Lo) (hr:rchL C=[]) (ha:acc.length≤1000) (hl:l.length≤1000):
 LoopOK Tryz.prog Zao 0 ⟨23,0,145⟩ (Za4 Tryz.f23 18) (wLo l acc.length 0) (hI C acc)
 (fun e tm hp'=>e= .exit 6∧Ent 0 tm hp' [(1, .ptr 0 0 0),(3, .ref 1 0 (acc++l.map loI).length none)] (hI C (acc++l.map loI))):=by
 refine Zaw Zag rfl (fun i=>wLo l (acc++(l.take i).map loI).length i) (fun i=>hI C (acc++(l.take i).map loI)) (fun i=>i≤l.length) (fun i=>l.length-i) ?_ 0 (Xao _) ?_
 case refine_2=>
  have e0:acc++(l.take 0).map loI=acc:=by rw[Xa5,Xa3,XaF]
  rw[e0];exact ZaJ
 rintro i hi
 cases R:decide ((i:Int)<(l.length:Int))with
 |false=>
  have e:i=l.length:=by have:=of_decide_eq_false R;omega
  refine Zae ?_
  refine Zac ?_
  refine Zaf ?_
  refine brF R ?_
  refine⟨rfl, ?_⟩
  rw[e,XaC]
  exact Zaq ⟨rfl,rfl,trivial⟩
 |true=>
  have J:i<l.length:=by have:=of_decide_eq_true R;omega
  have gx:l[(i:Int).toNat]? =some l[i]:=by rw[Xad];exact Xac J
  have I:acc++(l.take (i+1)).map loI=(acc++(l.take i).map loI)++ [loI l[i]]:=by
   rw[List.take_add_one,Xac J,XbM,Xbn];rfl
  have hlen:(acc++(l.take i).map loI).length≤2000:=by rw[Xaw,Xa0,Xas];omega
  obtain⟨x,ex⟩: ∃x,l[i]=x:=⟨_,rfl⟩
  obtain⟨ac,ea⟩: ∃ac,acc++(l.take i).map loI=ac:=⟨_,rfl⟩
  rw[ex]at gx I
  rw[ea]at hlen I
  rw[ea]
  have zC:(ac.length+1)*48≤140737488355328:=by omega
  have hL:(ac++ [loI x]).length=ac.length+1:=by rw[Xaw];rfl
  refine Zae ?_
  refine Zac ?_
  refine Zaf ?_
  refine brT R ?_
  refine Zae ?_
  refine Zbb rfl (fun _=>rfl) (Xaj i) gx rfl rfl ?_
  refine Zac ?_
  refine ZbB ?_
  refine Zad rfl (ZaP rfl rfl rfl rfl rfl rfl rfl rfl ?_)
  refine ZaC rfl ?_
  refine Zaf ?_
  have p1:=ZgZ x.2.2 0 100000
  refine Zae ?_
  iterate 2 refine Zac ?_
  refine Zap rfl (fun _=>rfl) rfl rfl rfl ?_
  refine Zac ?_
  refine Zap rfl (fun _=>rfl) rfl rfl rfl ?_
  refine ZbB ?_
  refine Zac ?_
  refine Zap rfl (fun _=>rfl) rfl rfl rfl ?_
  refine Zad rfl ((p1).mono ?_)
  rintro _ rfl
  refine Zaa rfl rfl ?_
  iterate 2 refine Zac ?_
  refine ZbB ?_
  refine Zad rfl (Zer (ct:=ZgI) (l:=ac) rfl rfl rfl rfl rfl rfl rfl rfl rfl (fun kk hk=>Zc1 rfl rfl rfl hk) (by rw[Za2 rfl rfl];show 1 ∉ [4,3];decide) rfl rfl zC (fun i1 H1 U q2 q3=> ?_))
  refine Zaa rfl rfl ?_
  refine Zac ?_
  refine Zaf ?_
  refine Zae ?_
  iterate 2 refine Zac ?_
  refine Zaf ?_
  refine⟨i+1,J,by show l.length-(i+1)<l.length-i;omega, ?_⟩
  have eI:((x.1,[x.2.1],false, !inR x.2.2 0 100000):Ne.Item)=loI x:=rfl
  have U:nth H1 i1=some (SM.row ZgI (ac++ [((x.1,[x.2.1],false, !inR x.2.2 0 100000):Ne.Item)]) true):=U
  rw[eI]at U
  show Ent 0 _ H1 (wLo l (acc++(l.take (i+1)).map loI).length (i+1)) (hI C (acc++(l.take (i+1)).map loI))
  rw[I,hL]
  exact Zd9 hr U (fun j a1 a2 a3=>q2 j a1 (by rw[Za2 rfl rfl];exact a2) a3) q3 ⟨rfl,ZbG (by show 0<2;omega),rfl,Zgk (by show 1<2;omega),rfl,ZcA,rfl,ZcA,congrArg (fun x=>some (SV.v (.i .i64) x)) (Zca (by omega)),ZcA,trivial⟩
def wSt (l:List Sto) (n i:Nat):TM:=[(1, .ptr 0 0 0),(3, .ref 1 0 n none),(112, .v (.l (.p .s (.p .s (.p (.i .i64) (.p (.i .i64) (.i .i64)))))) l),(113,nt l.length),(114,nt i)]
theorem Zuq (C:List SV) (acc:List Ne.Item) (l:List Sto) (hr:rchL C=[]) (ha:acc.length≤1000) (hl:l.length≤1000):
 LoopOK Tryz.prog Zao 0 ⟨23,0,145⟩ (Za4 Tryz.f23 23) (wSt l acc.length 0) (hI C acc)
 (fun e tm hp'=>e= .exit 8∧Ent 0 tm hp' [(1, .ptr 0 0 0),(3, .ref 1 0 (acc++l.map stI).length none)] (hI C (acc++l.map stI))):=by
 refine Zaw Zag rfl (fun i=>wSt l (acc++(l.take i).map stI).length i) (fun i=>hI C (acc++(l.take i).map stI)) (fun i=>i≤l.length) (fun i=>l.length-i) ?_ 0 (Xao _) ?_
 case refine_2=>
  have e0:acc++(l.take 0).map stI=acc:=by rw[Xa5,Xa3,XaF]
  rw[e0];exact ZaJ
 rintro i hi
 cases h1:decide ((i:Int)<(l.length:Int))with
 |false=>
  have e:i=l.length:=by have:=of_decide_eq_false h1;omega
  refine Zae ?_
  refine Zac ?_
  refine Zaf ?_
  refine brF h1 ?_
  refine⟨rfl, ?_⟩
  rw[e,XaC]
  exact Zaq ⟨rfl,rfl,trivial⟩
 |true=>
  have R:i<l.length:=by have:=of_decide_eq_true h1;omega
  have gx:l[(i:Int).toNat]? =some l[i]:=by rw[Xad];exact Xac R
  have I:acc++(l.take (i+1)).map stI=(acc++(l.take i).map stI)++ [stI l[i]]:=by
   rw[List.take_add_one,Xac R,XbM,Xbn];rfl
  have hlen:(acc++(l.take i).map stI).length≤2000:=by rw[Xaw,Xa0,Xas];omega
  obtain⟨x,ex⟩: ∃x,l[i]=x:=⟨_,rfl⟩
  obtain⟨ac,ea⟩: ∃ac,acc++(l.take i).map stI=ac:=⟨_,rfl⟩
  rw[ex]at gx I
  rw[ea]at hlen I
  rw[ea]
  have zC:(ac.length+1)*48≤140737488355328:=by omega
  have hL:(ac++ [stI x]).length=ac.length+1:=by rw[Xaw];rfl
  refine Zae ?_
  refine Zac ?_
  refine Zaf ?_
  refine brT h1 ?_
  refine Zae ?_
  refine Zbb rfl (fun _=>rfl) (Xaj i) gx rfl rfl ?_
  refine Zac ?_
  refine ZbB ?_
  refine Zad rfl (ZaP rfl rfl rfl rfl rfl rfl rfl rfl ?_)
  refine ZaC rfl ?_
  refine Zaf ?_
  have U:=ZgZ x.2.2.1 0 100000
  have p2:=ZgZ x.2.2.2.1 0 100000
  have p3:=ZgZ x.2.2.2.2 0 100000
  cases c1:inR x.2.2.1 0 100000 with
  |false=>
   rw[c1]at U
   refine Zae ?_
   iterate 2 refine Zac ?_
   refine Zap rfl (fun _=>rfl) rfl rfl rfl ?_
   refine Zac ?_
   refine Zap rfl (fun _=>rfl) rfl rfl rfl ?_
   refine ZbB ?_
   refine Zac ?_
   refine Zap rfl (fun _=>rfl) rfl rfl rfl ?_
   refine Zad rfl ((U).mono ?_)
   rintro _ rfl
   refine Zaa rfl rfl ?_
   iterate 2 refine Zac ?_
   refine Zah rfl ?_
   refine Zah rfl ?_
   refine Zah rfl ?_
   refine Zah rfl ?_
   refine Zat rfl ?_
   refine Zac ?_
   refine Zah rfl ?_
   refine Zah rfl ?_
   refine Zah rfl ?_
   refine Zah rfl ?_
   refine Zat rfl ?_
   refine Zac ?_
   refine ZbB ?_
   refine Zad rfl (Zer (ct:=ZgI) (l:=ac) rfl rfl rfl rfl rfl rfl rfl rfl rfl (fun kk hk=>Zc1 rfl rfl rfl hk) (by rw[Za2 rfl rfl];show 1 ∉ [4,3];decide) rfl rfl zC (fun i1 H1 J q2 q3=> ?_))
   refine Zaa rfl rfl ?_
   refine Zac ?_
   refine Zaf ?_
   refine Zae ?_
   iterate 2 refine Zac ?_
   refine Zaf ?_
   refine⟨i+1,R,by show l.length-(i+1)<l.length-i;omega, ?_⟩
   have eI:((x.1,[x.2.1],false,true):Ne.Item)=stI x:=(by rw[stI,c1];rfl)
   have J:nth H1 i1=some (SM.row ZgI (ac++ [((x.1,[x.2.1],false,true):Ne.Item)]) true):=J
   rw[eI]at J
   show Ent 0 _ H1 (wSt l (acc++(l.take (i+1)).map stI).length (i+1)) (hI C (acc++(l.take (i+1)).map stI))
   rw[I,hL]
   exact Zd9 hr J (fun j a1 a2 a3=>q2 j a1 (by rw[Za2 rfl rfl];exact a2) a3) q3 ⟨rfl,ZbG (by show 0<2;omega),rfl,Zgk (by show 1<2;omega),rfl,ZcA,rfl,ZcA,congrArg (fun x=>some (SV.v (.i .i64) x)) (Zca (by omega)),ZcA,trivial⟩
  |true=>
   rw[c1]at U
   cases c2:inR x.2.2.2.1 0 100000 with
   |false=>
    rw[c2]at p2
    refine Zae ?_
    iterate 2 refine Zac ?_
    refine Zap rfl (fun _=>rfl) rfl rfl rfl ?_
    refine Zac ?_
    refine Zap rfl (fun _=>rfl) rfl rfl rfl ?_
    refine ZbB ?_
    refine Zac ?_
    refine Zap rfl (fun _=>rfl) rfl rfl rfl ?_
    refine Zad rfl ((U).mono ?_)
    rintro _ rfl
    refine Zaa rfl rfl ?_
    iterate 2 refine Zac ?_
    refine Zab rfl ?_
    refine Zaj rfl rfl rfl rfl (fun _=>rfl) rfl rfl rfl ?_
    refine Zam rfl rfl rfl rfl ((p2).mono ?_)
    rintro _ rfl
    refine Zaa rfl rfl ?_
    refine Zab rfl ?_
    refine Zal rfl ?_
    refine Zac ?_
    refine Zah rfl ?_
    refine Zah rfl ?_
    refine Zah rfl ?_
    refine Zah rfl ?_
    refine Zat rfl ?_
    refine Zac ?_
    refine ZbB ?_
    refine Zad rfl (Zer (ct:=ZgI) (l:=ac) rfl rfl rfl rfl rfl rfl rfl rfl rfl (fun kk hk=>Zc1 rfl rfl rfl hk) (by rw[Za2 rfl rfl];show 1 ∉ [4,3];decide) rfl rfl zC (fun i1 H1 J q2 q3=> ?_))
    refine Zaa rfl rfl ?_
    refine Zac ?_
    refine Zaf ?_
    refine Zae ?_
    iterate 2 refine Zac ?_
    refine Zaf ?_
    refine⟨i+1,R,by show l.length-(i+1)<l.length-i;omega, ?_⟩
    have eI:((x.1,[x.2.1],false,true):Ne.Item)=stI x:=(by rw[stI,c1,c2];rfl)
    have J:nth H1 i1=some (SM.row ZgI (ac++ [((x.1,[x.2.1],false,true):Ne.Item)]) true):=J
    rw[eI]at J
    show Ent 0 _ H1 (wSt l (acc++(l.take (i+1)).map stI).length (i+1)) (hI C (acc++(l.take (i+1)).map stI))
    rw[I,hL]
    exact Zd9 hr J (fun j a1 a2 a3=>q2 j a1 (by rw[Za2 rfl rfl];exact a2) a3) q3 ⟨rfl,ZbG (by show 0<2;omega),rfl,Zgk (by show 1<2;omega),rfl,ZcA,rfl,ZcA,congrArg (fun x=>some (SV.v (.i .i64) x)) (Zca (by omega)),ZcA,trivial⟩
   |true=>
    rw[c2]at p2
    refine Zae ?_
    iterate 2 refine Zac ?_
    refine Zap rfl (fun _=>rfl) rfl rfl rfl ?_
    refine Zac ?_
    refine Zap rfl (fun _=>rfl) rfl rfl rfl ?_
    refine ZbB ?_
    refine Zac ?_
    refine Zap rfl (fun _=>rfl) rfl rfl rfl ?_
    refine Zad rfl ((U).mono ?_)
    rintro _ rfl
    refine Zaa rfl rfl ?_
    iterate 2 refine Zac ?_
    refine Zab rfl ?_
    refine Zaj rfl rfl rfl rfl (fun _=>rfl) rfl rfl rfl ?_
    refine Zam rfl rfl rfl rfl ((p2).mono ?_)
    rintro _ rfl
    refine Zaa rfl rfl ?_
    refine Zab rfl ?_
    refine Zal rfl ?_
    refine Zac ?_
    refine Zab rfl ?_
    refine Zaj rfl rfl rfl rfl (fun _=>rfl) rfl rfl rfl ?_
    refine Zam rfl rfl rfl rfl ((p3).mono ?_)
    rintro _ rfl
    refine Zaa rfl rfl ?_
    refine Zab rfl ?_
    refine Zal rfl ?_
    refine Zac ?_
    refine ZbB ?_
    refine Zad rfl (Zer (ct:=ZgI) (l:=ac) rfl rfl rfl rfl rfl rfl rfl rfl rfl (fun kk hk=>Zc1 rfl rfl rfl hk) (by rw[Za2 rfl rfl];show 1 ∉ [4,3];decide) rfl rfl zC (fun i1 H1 J q2 q3=> ?_))
    refine Zaa rfl rfl ?_
    refine Zac ?_
    refine Zaf ?_
    refine Zae ?_
    iterate 2 refine Zac ?_
    refine Zaf ?_
    refine⟨i+1,R,by show l.length-(i+1)<l.length-i;omega, ?_⟩
    have eI:((x.1,[x.2.1],false, !inR x.2.2.2.2 0 100000):Ne.Item)=stI x:=(by rw[stI,c1,c2];rfl)
    have J:nth H1 i1=some (SM.row ZgI (ac++ [((x.1,[x.2.1],false, !inR x.2.2.2.2 0 100000):Ne.Item)]) true):=J
    rw[eI]at J
    show Ent 0 _ H1 (wSt l (acc++(l.take (i+1)).map stI).length (i+1)) (hI C (acc++(l.take (i+1)).map stI))
    rw[I,hL]
    exact Zd9 hr J (fun j a1 a2 a3=>q2 j a1 (by rw[Za2 rfl rfl];exact a2) a3) q3 ⟨rfl,ZbG (by show 0<2;omega),rfl,Zgk (by show 1<2;omega),rfl,ZcA,rfl,ZcA,congrArg (fun x=>some (SV.v (.i .i64) x)) (Zca (by omega)),ZcA,trivial⟩
theorem ZwE (n:Ne.Net) (j:big n=false):PureOK Tryz.prog Zao 23 [.agg (Zdo n)] (fun V=>V= .v (.l ZgI) (ZrU n)):=by
 refine Zai Zag Tryz.func23 ?_
 simp only[big,Xbg,decide_eq_false_iff_not]at j
 obtain⟨b1,b2,b3,b4,b5,b6⟩:=j
 have C:=Zcz n
 have a1:=n.sws.length_map Ne.swI
 have a2:=n.brs.length_map brI
 have a3:=n.gens.length_map geI
 have a4:=n.loads.length_map loI
 have I:=ZvT (Zdo n) [] n.sws C (Xao _) (by omega)
 have J:=Zvd (Zdo n) ([]++n.sws.map Ne.swI) n.brs C (by simp only[Xaw,XbG];omega) (by omega)
 have R:=Zvr (Zdo n) ([]++n.sws.map Ne.swI++n.brs.map brI) n.gens C (by simp only[Xaw,XbG];omega) (by omega)
 have U:=Zux (Zdo n) ([]++n.sws.map Ne.swI++n.brs.map brI++n.gens.map geI) n.loads C (by simp only[Xaw,XbG];omega) (by omega)
 have l5:=Zuq (Zdo n) ([]++n.sws.map Ne.swI++n.brs.map brI++n.gens.map geI++n.loads.map loI) n.stores C (by simp only[Xaw,XbG];omega) (by omega)
 refine Zae ?_
 refine ZbB ?_
 refine Zac ?_
 refine Zaf ?_
 refine Zae ?_
 refine Zac ?_
 refine Zaf ?_
 refine Zae ?_
 refine Zac ?_
 refine Zap rfl (fun _=>rfl) rfl rfl rfl ?_
 iterate 2 refine Zac ?_
 refine Zaf ?_
 refine(I.ent ?_).through ?_
 ·refine Ent.trans (tm1:=[(1, .ptr 0 0 0),(3, .nils),(15, .v (.l ZlD) n.sws),(16,nt n.sws.length),(17,nt 0)]) (hp1:=[.cell (Zdo n) true]) (Zaq ⟨rfl,rfl,rfl,rfl,rfl,trivial⟩) ?_
  refine ZuZ (k:=3) (Xao _) rfl (fun a V ha h=> ?_) rfl
  have j:Nat.beq a 3=false:=by
   cases j:Nat.beq a 3 with
   |true=>exact absurd (Xam j) ha
   |false=>rfl
  simp only[wSw,ZcD,j]at h⊢
  exact h
 rintro _ tm hp' ⟨rfl,hE⟩
 refine⟨_,_,hE, ?_⟩
 show wp _ _ _ _ _ _ _ _ _
 refine Zae ?_
 refine Zac ?_
 refine Zap rfl (fun _=>rfl) rfl rfl rfl ?_
 iterate 2 refine Zac ?_
 refine Zaf ?_
 refine(J.ent ?_).through ?_
 ·exact Zaq ⟨rfl,rfl,rfl,rfl,rfl,trivial⟩
 rintro _ tm hp' ⟨rfl,hE⟩
 refine⟨_,_,hE, ?_⟩
 show wp _ _ _ _ _ _ _ _ _
 refine Zae ?_
 refine Zac ?_
 refine Zap rfl (fun _=>rfl) rfl rfl rfl ?_
 iterate 2 refine Zac ?_
 refine Zaf ?_
 refine(R.ent ?_).through ?_
 ·exact Zaq ⟨rfl,rfl,rfl,rfl,rfl,trivial⟩
 rintro _ tm hp' ⟨rfl,hE⟩
 refine⟨_,_,hE, ?_⟩
 show wp _ _ _ _ _ _ _ _ _
 refine Zae ?_
 refine Zac ?_
 refine Zap rfl (fun _=>rfl) rfl rfl rfl ?_
 iterate 2 refine Zac ?_
 refine Zaf ?_
 refine(U.ent ?_).through ?_
 ·exact Zaq ⟨rfl,rfl,rfl,rfl,rfl,trivial⟩
 rintro _ tm hp' ⟨rfl,hE⟩
 refine⟨_,_,hE, ?_⟩
 show wp _ _ _ _ _ _ _ _ _
 refine Zae ?_
 refine Zac ?_
 refine Zap rfl (fun _=>rfl) rfl rfl rfl ?_
 iterate 2 refine Zac ?_
 refine Zaf ?_
 refine(l5.ent ?_).through ?_
 ·exact Zaq ⟨rfl,rfl,rfl,rfl,rfl,trivial⟩
 rintro _ tm hp' ⟨rfl,hE⟩
 refine⟨_,_,hE, ?_⟩
 show wp _ _ _ _ _ _ _ _ _
 refine Zae ?_
 iterate 2 refine Zac ?_
 refine Zaf ?_
 refine⟨Nat.le_of_eq (Xaq _), ?_⟩
 exact congrArg (fun z=>SV.v (.l ZgI) z) ((ZcE rfl).trans (by simp only[List.nil_append,Xbn];rfl))
def ZdX (met:List Txt) (s:Txt):Int:=bif !Zbu s then 5 else bif Zdg s met then 7 else 0
def hM (A:List SV) (met:List Txt) (X:List SM):List SM:= .cell A true:: .cell [.ref 2 0 met.length none] true:: .row .s met true::X
def hN (A:List SV) (met:List Txt) (X:List SM) (s:Txt) (k:Nat):List SM:= .cell A true:: .cell [.ref k 0 (met.length+1) none] true:: .dead::((X++ [.row .s [s] true])++ [.row .s (met++ [s]) true])
theorem ZBx (A:List SV) (met:List Txt) (X:List SM) (s:Txt) (hm:met.length≤1000):
 OpenOK Tryz.prog Zao 20 [.v .s s, .ptr 1 0 0] (hM A met X) (fun V hp'=>V= .v (.i .i64) (ZdX met s)∧(ZdX met s=0→ ∃k,k=X.length+4∧hp'=hN A met X s k)):=by
 refine Zd2 (fn:=Tryz.f20) (code:=Zbn Tryz.f20) Zag (by kernel_rfl) Tryz.func20 (by kernel_rfl) (Xal (by kernel_rfl)) ?_
 intro base
 have hI:=ZvP s
 have C:=Zzz met s hm
 have C:PureOK Tryz.prog Zao 22 [.v (.l .s) (sub met 0 met.length), .v .s s] (fun V=>V= .v .b (Zdg s met)):=by rw[ZcE rfl];exact C
 have R:(met.length+1)*16≤140737488355328:=by omega
 cases I:Zbu s with
 |false=>
  rw[I]at hI
  have j:ZdX met s=5:=by rw[ZdX,I];rfl
  refine Zae ?_
  refine Zac ?_
  refine Zaf ?_
  refine Zae ?_
  refine Zac ?_
  refine Zad rfl ((hI).mono ?_)
  rintro _ rfl
  refine Zaa rfl rfl ?_
  refine Zac ?_
  refine Zaf ?_
  refine brT rfl ?_
  refine Zae ?_
  refine Zac ?_
  refine Zaf ?_
  exact⟨congrArg (fun x=>SV.v (.i .i64) x) j.symm,fun h=>by rw[j]at h;cases h⟩
 |true=>
  rw[I]at hI
  cases J:Zdg s met with
  |true=>
   rw[J]at C
   have j:ZdX met s=7:=by rw[ZdX,I,J];rfl
   refine Zae ?_
   refine Zac ?_
   refine Zaf ?_
   refine Zae ?_
   refine Zac ?_
   refine Zad rfl ((hI).mono ?_)
   rintro _ rfl
   refine Zaa rfl rfl ?_
   refine Zac ?_
   refine Zaf ?_
   refine brF rfl ?_
   refine Zae ?_
   refine Zap rfl (fun _=>rfl) rfl rfl rfl ?_
   refine Zac ?_
   refine Zad rfl (Xaa (Nat.le_of_eq (Xaq _)) (C.mono ?_))
   rintro _ rfl
   refine Zaa rfl rfl ?_
   refine Zaf ?_
   refine brT rfl ?_
   refine Zae ?_
   refine Zac ?_
   refine Zaf ?_
   exact⟨congrArg (fun x=>SV.v (.i .i64) x) j.symm,fun h=>by rw[j]at h;cases h⟩
  |false=>
   rw[J]at C
   have j:ZdX met s=0:=by rw[ZdX,I,J];rfl
   refine Zae ?_
   refine Zac ?_
   refine Zaf ?_
   refine Zae ?_
   refine Zac ?_
   refine Zad rfl ((hI).mono ?_)
   rintro _ rfl
   refine Zaa rfl rfl ?_
   refine Zac ?_
   refine Zaf ?_
   refine brF rfl ?_
   refine Zae ?_
   refine Zap rfl (fun _=>rfl) rfl rfl rfl ?_
   refine Zac ?_
   refine Zad rfl (Xaa (Nat.le_of_eq (Xaq _)) (C.mono ?_))
   rintro _ rfl
   refine Zaa rfl rfl ?_
   refine Zaf ?_
   refine brF rfl ?_
   refine Zae ?_
   refine Zap rfl (fun _=>rfl) rfl rfl rfl ?_
   refine Zac ?_
   refine ZbB ?_
   refine Zad rfl (Ze1 rfl rfl rfl rfl rfl rfl rfl rfl rfl rfl (ZkW (a:=hM A met X)) rfl R ?_)
   refine Zaa rfl rfl ?_
   refine Zad rfl (ZaP rfl rfl rfl rfl rfl rfl rfl rfl ?_)
   refine ZaC rfl ?_
   refine Zaf ?_
   refine Zae ?_
   refine Zac ?_
   refine Zaf ?_
   refine⟨congrArg (fun x=>SV.v (.i .i64) x) j.symm,fun _=>⟨_, ?_,rfl⟩⟩
   simp[hM]
theorem ZnP {A:List SV} {met:List Txt} {X:List SM} {s:Txt} {k:Nat} {tm tm':TM} (U:rchL A=[]) (I:k=X.length+4) (J:Zwy (fun j=> [0,1,k].getD j 0) 3 tm tm'):
 Ent 0 tm (hN A met X s k) tm' (hM A (met++ [s]) []):=by
 subst I
 have I:(hN A met X s (X.length+4))[X.length+4]? =some (.row .s (met++ [s]) true):=by
  rw[hN,show X.length+4=X.length+1+1+1+1 from rfl,Xbp,Xbp,Xbp,XaE (by simp)]
  simp
 have hl:(hN A met X s (X.length+4)).length=X.length+5:=by simp[hN]
 refine Zlg (fun j=> [0,1,X.length+4].getD j 0) (Xao _) (fun j C=>absurd C (Nat.not_lt_zero j)) (fun j C=> ?_) (fun a b ha hb R=> ?_) J fun j m hm=> .inr ?_
 ·rw[hl]
  have C:j<3:=C
  match j with
  |0=>show 0<_;omega
  |1=>show 1<_;omega
  |2=>show X.length+4<_;omega
  |j+3=>omega
 ·have ha:a<3:=ha
  have hb:b<3:=hb
  match a,b,R with
  |0,0,_=>rfl
  |1,1,_=>rfl
  |2,2,_=>rfl
  |0,1,h=>exact absurd h (by show(0:Nat)≠1;omega)
  |1,0,h=>exact absurd h (by show(1:Nat)≠0;omega)
  |0,2,h=>exact absurd h (by show(0:Nat)≠X.length+4;omega)
  |2,0,h=>exact absurd h (by show X.length+4≠0;omega)
  |1,2,h=>exact absurd h (by show(1:Nat)≠X.length+4;omega)
  |2,1,h=>exact absurd h (by show X.length+4≠1;omega)
  |a+3,_,_=>omega
  |_,b+3,_=>omega
 ·match j,hm with
  |0,hm=>
   cases hm
   have e:=Zwx (f:=fun j=> [0,1,X.length+4].getD j 0) (p:=0) (fun j C=>absurd C (Nat.not_lt_zero j)) (.cell A true) (fun id hid=>by rw[ZiL,U]at hid;exact absurd hid XaU)
   rw[e]
   exact⟨rfl,fun id hid=>by rw[ZiL,U]at hid;exact absurd hid XaU⟩
  |1,hm=>
   cases hm
   refine⟨?_,fun id hid=> ?_⟩
   ·show some (SM.cell [.ref (X.length+4) 0 (met.length+1) none] true)=some (SM.cell [.ref (X.length+4) 0 (met++ [s]).length none] true)
    rw[Xaw];rfl
   ·have h:id=2:=by simpa[ZiL,rchL,Zdt]using hid
    show id<3
    omega
  |2,hm=>
   cases hm
   exact⟨I,fun id hid=>absurd hid XaU⟩
  |j+3,hm=>cases hm
theorem ZxD {nodes met:List Txt} {s:Txt}:Zbl nodes met (noI s)=ZdX met s:=by
 simp only[Zbl,noI,ZdX]
 cases Zbu s<;>cases Zdg s met<;>rfl
abbrev nmV:SV:= .func 20 [] [.ptr 1 0 0]
theorem Zya: ∀id∈Zdt nmV,id<3:=fun id hid=>by
 have h:id=1:=by simpa[Zdt,rchL]using hid
 omega
def yNo (nodes:List Txt) (i:Nat):TM:=[(1, .ptr 0 0 0),(4,nmV),(49, .v (.l .s) nodes),(50,nt nodes.length),(51,nt i)]
theorem Zxz (j:List SV) (nodes:List Txt) (hr:rchL j=[]) (hn:nodes.length≤100):
 LoopOK Tryz.prog Zao 0 ⟨6,0,105⟩ (Za4 Tryz.f6 6) (yNo nodes 0) (hM j [] [])
 (fun e tm hp'=>(e= .exit 0∧ZaI nodes [] (nodes.map noI)=0∧Ent 0 tm hp' [(1, .ptr 0 0 0),(4,nmV)] (hM j nodes []))∨(e= .ret∧ZaI nodes [] (nodes.map noI)≠0∧Ent 0 tm hp' [(2, .v (.i .i64) (ZaI nodes [] (nodes.map noI)))] [])):=by
 refine Zaw Zag rfl (yNo nodes) (fun i=>hM j (ZaO noI [] nodes i) []) (fun i=>i≤nodes.length∧ZaI nodes [] (nodes.map noI)=ZaI nodes (ZaO noI [] nodes i) ((nodes.drop i).map noI)) (fun i=>nodes.length-i) ?_ 0 ⟨Xao _,rfl⟩ ZaJ
 rintro i ⟨hi,he⟩
 cases R:decide ((i:Int)<(nodes.length:Int))with
 |false=>
  have e:i=nodes.length:=by have:=of_decide_eq_false R;omega
  have e0:ZaI nodes [] (nodes.map noI)=0:=by rw[he,e,Xbm];rfl
  have em:ZaO noI [] nodes i=nodes:=by rw[Zex e];exact List.map_id' nodes
  refine Zae ?_
  refine Zac ?_
  refine Zaf ?_
  refine brF R ?_
  refine .inl ⟨rfl,e0, ?_⟩
  rw[em]
  exact Zaq ⟨rfl,rfl,trivial⟩
 |true=>
  have I:i<nodes.length:=by have:=of_decide_eq_true R;omega
  have C:nodes[i]? =some nodes[i]:=Xac I
  have gx:nodes[(i:Int).toNat]? =some nodes[i]:=by rw[Xad];exact C
  obtain⟨x,ex⟩: ∃x,nodes[i]=x:=⟨_,rfl⟩
  rw[ex]at gx C
  have hC:=ZBx j (ZaO noI [] nodes i) [] x (by rw[ZaO,Xaw,Xa0,Xas,XbG];omega)
  have eB:Zbl nodes (ZaO noI [] nodes i) (noI x)=ZdX (ZaO noI [] nodes i) x:=ZxD
  refine Zae ?_
  refine Zac ?_
  refine Zaf ?_
  refine brT R ?_
  refine Zae ?_
  refine Zbb rfl (fun _=>rfl) (Xaj i) gx rfl rfl ?_
  iterate 2 refine Zac ?_
  refine Zaf ?_
  refine Zae ?_
  iterate 2 refine Zac ?_
  refine Zad rfl ((hC.mono ?_))
  rintro _ hp' ⟨rfl,hX⟩
  refine Zaa rfl rfl ?_
  refine Zac ?_
  refine Zaf ?_
  cases U:decide (ZdX (ZaO noI [] nodes i) x=0)with
  |true=>
   have J:=of_decide_eq_true U
   have hc:(!decide (ZdX (ZaO noI [] nodes i) x=0))=false:=by rw[U];rfl
   obtain⟨k,hk,rfl⟩:=hX J
   refine Zae ?_
   iterate 2 refine Zac ?_
   refine Zaf ?_
   refine brF hc ?_
   refine Zae ?_
   iterate 2 refine Zac ?_
   refine Zaf ?_
   refine⟨i+1,⟨I,he.trans (ZeV C (eB.trans J))⟩,by show nodes.length-(i+1)<nodes.length-i;omega, ?_⟩
   show Ent 0 _ _ (yNo nodes (i+1)) (hM j (ZaO noI [] nodes (i+1)) [])
   rw[←Zcp (f:=noI) C]
   exact ZnP hr hk ⟨rfl,ZbG (by show 0<3;omega),rfl,Zya,rfl,ZcA,rfl,ZcA,congrArg (fun x=>some (SV.v (.i .i64) x)) (Zca (by omega)),ZcA,trivial⟩
  |false=>
   have J:=of_decide_eq_false U
   have hc:(!decide (ZdX (ZaO noI [] nodes i) x=0))=true:=by rw[U];rfl
   refine Zae ?_
   iterate 2 refine Zac ?_
   refine Zaf ?_
   refine brT hc ?_
   refine Zae ?_
   iterate 2 refine Zac ?_
   refine Zaf ?_
   refine ZaR ?_
   repeat (first|refine ZaF ?_|refine ZaG ?_|refine Zaz ?_)
   have e3:=(he.trans (Zbo C (by rw[eB];exact J))).trans eB
   exact .inr ⟨rfl,fun h=>J (e3.symm.trans h),Zbz ⟨congrArg (fun x=>some (SV.v (.i .i64) x)) e3.symm,rfl,trivial⟩⟩
def yIn (l:List Ne.Item) (i:Nat) (ns:List Txt) (j:Nat):TM:=[(1, .ptr 0 0 0),(4,nmV),(9, .ptr 3 0 0),(63, .v (.l ZgI) l),(64,nt l.length),(65,nt i),(77, .v (.l .s) ns),(78,nt ns.length),(79,nt j)]
theorem Zxc (n:Ne.Net) (l:List Ne.Item) (i:Nat) (ns:List Txt) (H:List SM) (hn:n.nodes.length≤100) (aa:ns.length≤1000) (U:nth H 0=some (.cell (Zdo n) true)):
 LoopOK Tryz.prog Zao 0 ⟨6,0,105⟩ (Za4 Tryz.f6 19) (yIn l i ns 0) H
 (fun e tm hp'=>(e= .exit 4∧(ns.all fun s=>Zdg s n.nodes)=true∧Ent 0 tm hp' [(1, .ptr 0 0 0),(4,nmV),(9, .ptr 3 0 0),(63, .v (.l ZgI) l),(64,nt l.length),(65,nt i)] H)∨(e= .ret∧(ns.all fun s=>Zdg s n.nodes)=false∧Ent 0 tm hp' [(2, .v (.i .i64) (6:Int))] [])):=by
 refine Zaw Zag rfl (yIn l i ns) (fun _=>H) (fun j=>j≤ns.length∧(ns.all fun s=>Zdg s n.nodes)=((ns.drop j).all fun s=>Zdg s n.nodes)) (fun j=>ns.length-j) ?_ 0 ⟨Xao _,rfl⟩ ZaJ
 rintro j ⟨hj,he⟩
 cases J:decide ((j:Int)<(ns.length:Int))with
 |false=>
  have e:j=ns.length:=by have:=of_decide_eq_false J;omega
  refine Zae ?_
  refine Zac ?_
  refine Zaf ?_
  refine brF J ?_
  exact .inl ⟨rfl,by rw[he,e,Xbm];rfl,Zaq ⟨rfl,rfl,rfl,rfl,rfl,rfl,trivial⟩⟩
 |true=>
  have C:j<ns.length:=by have:=of_decide_eq_true J;omega
  have gx:ns[(j:Int).toNat]? =some ns[j]:=by rw[Xad];exact Xac C
  have I:((ns.drop j).all fun s=>Zdg s n.nodes)=(Zdg ns[j] n.nodes&&(ns.drop (j+1)).all fun s=>Zdg s n.nodes):=by rw[Xaz C,XbL]
  obtain⟨x,ex⟩: ∃x,ns[j]=x:=⟨_,rfl⟩
  rw[ex]at gx I
  have R:=Zzz n.nodes x (by omega)
  refine Zae ?_
  refine Zac ?_
  refine Zaf ?_
  refine brT J ?_
  refine Zae ?_
  refine Zbb rfl (fun _=>rfl) (Xaj j) gx rfl rfl ?_
  iterate 2 refine Zac ?_
  refine Zaf ?_
  cases h2:Zdg x n.nodes with
  |true=>
   rw[h2]at R I
   refine Zae ?_
   refine Zac ?_
   refine Zad rfl (ZbN rfl rfl U rfl rfl ?_)
   refine Zaa rfl rfl ?_
   refine Zac ?_
   refine Zad rfl ((R).mono ?_)
   rintro _ rfl
   refine Zaa rfl rfl ?_
   refine Zac ?_
   refine Zaf ?_
   refine brF rfl ?_
   refine Zae ?_
   iterate 2 refine Zac ?_
   refine Zaf ?_
   refine⟨j+1,⟨C,he.trans I⟩,by show ns.length-(j+1)<ns.length-j;omega, ?_⟩
   exact Zaq ⟨rfl,rfl,rfl,rfl,rfl,rfl,rfl,rfl,congrArg (fun x=>some (SV.v (.i .i64) x)) (Zca (by omega)),trivial⟩
  |false=>
   rw[h2]at R I
   refine Zae ?_
   refine Zac ?_
   refine Zad rfl (ZbN rfl rfl U rfl rfl ?_)
   refine Zaa rfl rfl ?_
   refine Zac ?_
   refine Zad rfl ((R).mono ?_)
   rintro _ rfl
   refine Zaa rfl rfl ?_
   refine Zac ?_
   refine Zaf ?_
   refine brT rfl ?_
   refine Zae ?_
   refine Zac ?_
   refine Zaf ?_
   refine ZaR ?_
   repeat (first|refine ZaF ?_|refine ZaG ?_|refine Zaz ?_)
   exact .inr ⟨rfl,he.trans I,Zbz ⟨rfl,rfl,trivial⟩⟩
theorem Zw9 {nodes met:List Txt} {s:Txt} {ns:List Txt} {ap bad:Bool}:Zbl nodes met (s,ns,ap,bad)=Zcm (ZdX met s) (bif ns.all fun s=>Zdg s nodes then(bif ap&&(ns.getD 0 []==ns.getD 1 [])then 3 else bif bad then 4 else 0)else 6):=by
 simp only[Zbl,ZdX]
 cases Zbu s<;>cases Zdg s met<;>rfl
def yIt (l:List Ne.Item) (i:Nat):TM:=[(1, .ptr 0 0 0),(4,nmV),(63, .v (.l ZgI) l),(64,nt l.length),(65,nt i)]
theorem ZxU (n:Ne.Net) (ks:List Txt) (l:List Ne.Item) (hn:n.nodes.length≤100) (hk:ks.length≤100) (hl:l.length≤100) (U: ∀x∈l,x.2.1.length≤1000∧(x.2.2.1=true→ ∃a b,x.2.1=[a,b])):
 LoopOK Tryz.prog Zao 0 ⟨6,0,105⟩ (Za4 Tryz.f6 13) (yIt l 0) (hM (Zdo n) ks [])
 (fun e tm hp'=>(e= .exit 2∧ZaI n.nodes ks (l.map id)=0∧Ent 0 tm hp' [] [])∨(e= .ret∧ZaI n.nodes ks (l.map id)≠0∧Ent 0 tm hp' [(2, .v (.i .i64) (ZaI n.nodes ks (l.map id)))] [])):=by
 refine Zaw Zag rfl (yIt l) (fun i=>hM (Zdo n) (ZaO id ks l i) []) (fun i=>i≤l.length∧ZaI n.nodes ks (l.map id)=ZaI n.nodes (ZaO id ks l i) ((l.drop i).map id)) (fun i=>l.length-i) ?_ 0 ⟨Xao _,by rw[ZaO,Xa5,Xa3,XaF,XaB]⟩ ?_
 case refine_2=>
  have e0:ZaO id ks l 0=ks:=by rw[ZaO,Xa5,Xa3,XaF]
  rw[e0];exact ZaJ
 rintro i ⟨hi,he⟩
 cases h1:decide ((i:Int)<(l.length:Int))with
 |false=>
  have e:i=l.length:=by have:=of_decide_eq_false h1;omega
  have e0:ZaI n.nodes ks (l.map id)=0:=by rw[he,e,Xbm];rfl
  refine Zae ?_
  refine Zac ?_
  refine Zaf ?_
  refine brF h1 ?_
  exact .inl ⟨rfl,e0,Zbz trivial⟩
 |true=>
  have aa:i<l.length:=by have:=of_decide_eq_true h1;omega
  have R:l[i]? =some l[i]:=Xac aa
  have gx:l[(i:Int).toNat]? =some l[i]:=by rw[Xad];exact R
  obtain⟨ab,U⟩:=U _ (Xax aa)
  obtain⟨⟨s,ns,ap,bad⟩,ex⟩: ∃x,l[i]=x:=⟨_,rfl⟩
  rw[ex]at gx R ab U
  obtain⟨met,em⟩: ∃met,ZaO id ks l i=met:=⟨_,rfl⟩
  have ae:met.length≤1000:=by rw[←em,ZaO,Xaw,Xa0,Xas];omega
  have ad:ZaO id ks l (i+1)=met++ [s]:=by rw[←em];exact(Zcp (f:=id) R).symm
  have C:=fun h=>Zbo (f:=id) (ks0:=ks) (nodes:=n.nodes) R h
  have I:=fun h=>ZeV (f:=id) (ks0:=ks) (nodes:=n.nodes) R h
  rw[em]at he C I
  rw[em]
  have j:Zbl n.nodes met (id (s,ns,ap,bad))=_:=Zw9
  have hC:=ZBx (Zdo n) met [.cell [.v .s s, .v (.l .s) ns, .v .b ap, .v .b bad] true] s ae
  refine Zae ?_
  refine Zac ?_
  refine Zaf ?_
  refine brT h1 ?_
  refine Zae ?_
  refine Zbb rfl (fun _=>rfl) (Xaj i) gx rfl rfl ?_
  refine Zac ?_
  refine ZbB ?_
  refine Zad rfl (ZaP rfl rfl rfl rfl rfl rfl rfl rfl ?_)
  refine ZaC rfl ?_
  refine Zaf ?_
  refine Zae ?_
  iterate 2 refine Zac ?_
  refine Zap rfl (fun _=>rfl) rfl rfl rfl ?_
  refine Zad rfl ((hC.mono ?_))
  rintro _ hp' ⟨rfl,hX⟩
  refine Zaa rfl rfl ?_
  refine Zac ?_
  refine Zaf ?_
  cases h2:decide (ZdX met s=0)with
  |false=>
   have e2:=of_decide_eq_false h2
   have hc:(!decide (ZdX met s=0))=true:=by rw[h2];rfl
   rw[Zcm,h2]at j
   have j:Zbl n.nodes met (id (s,ns,ap,bad))=ZdX met s:=j
   refine Zae ?_
   iterate 2 refine Zac ?_
   refine Zaf ?_
   refine brT hc ?_
   refine Zae ?_
   iterate 2 refine Zac ?_
   refine Zaf ?_
   refine ZaR ?_
   repeat (first|refine ZaF ?_|refine ZaG ?_|refine Zaz ?_)
   have J:=(he.trans (C (by rw[j];exact e2))).trans j
   exact .inr ⟨rfl,fun h=>e2 (J.symm.trans h),Zbz ⟨congrArg (fun x=>some (SV.v (.i .i64) x)) J.symm,rfl,trivial⟩⟩
  |true=>
   have e2:=of_decide_eq_true h2
   have hc:(!decide (ZdX met s=0))=false:=by rw[h2];rfl
   rw[Zcm,h2]at j
   obtain⟨k,hk,rfl⟩:=hX e2
   have af:=Zxc n l i ns (hN (Zdo n) met [.cell [.v .s s, .v (.l .s) ns, .v .b ap, .v .b bad] true] s k) hn ab rfl
   refine Zae ?_
   iterate 2 refine Zac ?_
   refine Zaf ?_
   refine brF hc ?_
   refine Zae ?_
   refine Zac ?_
   refine Zap rfl (fun _=>rfl) rfl rfl rfl ?_
   iterate 2 refine Zac ?_
   refine Zaf ?_
   refine(af.ent ?_).through ?_
   ·exact Zaq ⟨rfl,rfl,rfl,rfl,rfl,rfl,rfl,rfl,rfl,trivial⟩
   rintro _ tm hp' (⟨rfl,ha,hE⟩|⟨rfl,ha,hE⟩)
   ·refine⟨_,_,hE, ?_⟩
    show wp _ _ _ _ _ _ _ _ _
    have j:Zbl n.nodes met (id (s,ns,ap,bad))=bif ap&&(ns.getD 0 []==ns.getD 1 [])then 3 else bif bad then 4 else 0:=by rw[j,ha];rfl
    cases ap with
    |true=>
     obtain⟨a,b,e⟩:=U rfl
     have e:ns=[a,b]:=e
     subst e
     have j:Zbl n.nodes met (id (s,[a,b],true,bad))=bif a==b then 3 else bif bad then 4 else 0:=j
     cases h6:(a==b)with
     |true=>
      have j:Zbl n.nodes met (id (s,[a,b],true,bad))=3:=by rw[j,h6];rfl
      refine Zae ?_
      refine Zac ?_
      refine Zap rfl (fun _=>rfl) rfl rfl rfl ?_
      refine Zac ?_
      refine Zab rfl ?_
      refine Zaj rfl rfl rfl rfl (fun _=>rfl) rfl rfl rfl ?_
      refine ZbZ rfl rfl rfl rfl (fun _=>rfl) (XaT 0) rfl rfl rfl ?_
      refine Zab rfl ?_
      refine Zab rfl ?_
      refine Zaj rfl rfl rfl rfl (fun _=>rfl) rfl rfl rfl ?_
      refine ZbZ rfl rfl rfl rfl (fun _=>rfl) (show(0:Int)≤1 by decide) rfl rfl rfl ?_
      refine Zab rfl ?_
      refine Zab rfl ?_
      refine Zat rfl ?_
      refine Zaf ?_
      refine brT h6 ?_
      refine Zae ?_
      refine Zac ?_
      refine Zaf ?_
      refine ZaR ?_
      repeat (first|refine ZaF ?_|refine ZaG ?_|refine Zaz ?_)
      have J:=(he.trans (C (by rw[j];decide))).trans j
      exact .inr ⟨rfl,(fun h=>by rw[J]at h;cases h),Zbz ⟨congrArg (fun x=>some (SV.v (.i .i64) x)) J.symm,rfl,trivial⟩⟩
     |false=>
      refine Zae ?_
      refine Zac ?_
      refine Zap rfl (fun _=>rfl) rfl rfl rfl ?_
      refine Zac ?_
      refine Zab rfl ?_
      refine Zaj rfl rfl rfl rfl (fun _=>rfl) rfl rfl rfl ?_
      refine ZbZ rfl rfl rfl rfl (fun _=>rfl) (XaT 0) rfl rfl rfl ?_
      refine Zab rfl ?_
      refine Zab rfl ?_
      refine Zaj rfl rfl rfl rfl (fun _=>rfl) rfl rfl rfl ?_
      refine ZbZ rfl rfl rfl rfl (fun _=>rfl) (show(0:Int)≤1 by decide) rfl rfl rfl ?_
      refine Zab rfl ?_
      refine Zab rfl ?_
      refine Zat rfl ?_
      refine Zaf ?_
      refine brF h6 ?_
      cases bad with
      |true=>
       have j:Zbl n.nodes met (id (s,[a,b],true,true))=4:=by rw[j,h6];rfl
       refine Zae ?_
       refine Zac ?_
       refine Zap rfl (fun _=>rfl) rfl rfl rfl ?_
       refine Zaf ?_
       refine brT rfl ?_
       refine Zae ?_
       refine Zac ?_
       refine Zaf ?_
       refine ZaR ?_
       repeat (first|refine ZaF ?_|refine ZaG ?_|refine Zaz ?_)
       have J:=(he.trans (C (by rw[j];decide))).trans j
       exact .inr ⟨rfl,(fun h=>by rw[J]at h;cases h),Zbz ⟨congrArg (fun x=>some (SV.v (.i .i64) x)) J.symm,rfl,trivial⟩⟩
      |false=>
       have j:Zbl n.nodes met (id (s,[a,b],true,false))=0:=by rw[j,h6];rfl
       refine Zae ?_
       refine Zac ?_
       refine Zap rfl (fun _=>rfl) rfl rfl rfl ?_
       refine Zaf ?_
       refine brF rfl ?_
       refine Zae ?_
       iterate 2 refine Zac ?_
       refine Zaf ?_
       refine⟨i+1,⟨aa,he.trans (I j)⟩,by show l.length-(i+1)<l.length-i;omega, ?_⟩
       show Ent 0 _ _ (yIt l (i+1)) (hM (Zdo n) (ZaO id ks l (i+1)) [])
       rw[ad]
       exact ZnP (Zcz n) hk ⟨rfl,ZbG (by show 0<3;omega),rfl,Zya,rfl,ZcA,rfl,ZcA,congrArg (fun x=>some (SV.v (.i .i64) x)) (Zca (by omega)),ZcA,trivial⟩
    |false=>
     refine Zae ?_
     refine Zac ?_
     refine Zap rfl (fun _=>rfl) rfl rfl rfl ?_
     refine Zac ?_
     refine Zah rfl ?_
     refine Zah rfl ?_
     refine Zah rfl ?_
     refine Zah rfl ?_
     refine Zah rfl ?_
     refine Zah rfl ?_
     refine Zah rfl ?_
     refine Zah rfl ?_
     refine Zah rfl ?_
     refine Zal rfl ?_
     refine Zaf ?_
     refine brF rfl ?_
     cases bad with
     |true=>
      have j:Zbl n.nodes met (id (s,ns,false,true))=4:=j
      refine Zae ?_
      refine Zac ?_
      refine Zap rfl (fun _=>rfl) rfl rfl rfl ?_
      refine Zaf ?_
      refine brT rfl ?_
      refine Zae ?_
      refine Zac ?_
      refine Zaf ?_
      refine ZaR ?_
      repeat (first|refine ZaF ?_|refine ZaG ?_|refine Zaz ?_)
      have J:=(he.trans (C (by rw[j];decide))).trans j
      exact .inr ⟨rfl,(fun h=>by rw[J]at h;cases h),Zbz ⟨congrArg (fun x=>some (SV.v (.i .i64) x)) J.symm,rfl,trivial⟩⟩
     |false=>
      have j:Zbl n.nodes met (id (s,ns,false,false))=0:=j
      refine Zae ?_
      refine Zac ?_
      refine Zap rfl (fun _=>rfl) rfl rfl rfl ?_
      refine Zaf ?_
      refine brF rfl ?_
      refine Zae ?_
      iterate 2 refine Zac ?_
      refine Zaf ?_
      refine⟨i+1,⟨aa,he.trans (I j)⟩,by show l.length-(i+1)<l.length-i;omega, ?_⟩
      show Ent 0 _ _ (yIt l (i+1)) (hM (Zdo n) (ZaO id ks l (i+1)) [])
      rw[ad]
      exact ZnP (Zcz n) hk ⟨rfl,ZbG (by show 0<3;omega),rfl,Zya,rfl,ZcA,rfl,ZcA,congrArg (fun x=>some (SV.v (.i .i64) x)) (Zca (by omega)),ZcA,trivial⟩
   ·refine⟨_,_,hE, ?_⟩
    have j:Zbl n.nodes met (id (s,ns,ap,bad))=6:=by rw[j,ha];rfl
    have J:=(he.trans (C (by rw[j];decide))).trans j
    repeat (first|refine ZaF ?_|refine ZaG ?_|refine Zaz ?_)
    exact .inr ⟨rfl,(fun h=>by rw[J]at h;cases h),Zaq ⟨congrArg (fun x=>some (SV.v (.i .i64) x)) J.symm,trivial⟩⟩
theorem ZwH {n:Ne.Net} (h:big n=false):ZeC n=Zcm (ZaI n.nodes [] (n.nodes.map noI)) (ZaI n.nodes n.nodes ((ZrU n).map id)):=by
 have e:([]++n.nodes.map fun x=>(noI x).1)=n.nodes:=List.map_id' n.nodes
 rw[ZeC,h,Zfu,e,List.map_id];rfl
theorem ZvM {n:Ne.Net} (h:big n=false):(ZrU n).length≤100:=by
 simp only[big,Xbg,decide_eq_false_iff_not]at h
 obtain⟨j,b2,C,I,J,R⟩:=h
 simp only[ZrU,Xaw,Xa0]
 omega
theorem ZwL (n:Ne.Net): ∀x∈ZrU n,x.2.1.length≤1000∧(x.2.2.1=true→ ∃a b,x.2.1=[a,b]):=by
 intro x j
 simp only[ZrU,XaA,Xbq]at j
 rcases j with⟨y,_,rfl⟩|⟨y,_,rfl⟩|⟨y,_,rfl⟩|⟨y,_,rfl⟩|⟨y,_,rfl⟩
 ·exact⟨Xal rfl,fun _=>⟨_,_,rfl⟩⟩
 ·exact⟨Xal rfl,fun _=>⟨_,_,rfl⟩⟩
 ·exact⟨Xal rfl,fun h=>nomatch h⟩
 ·exact⟨Xal rfl,fun h=>nomatch h⟩
 ·exact⟨Xal rfl,fun h=>nomatch h⟩
theorem Zqw (n:Ne.Net):PureOK Tryz.prog Zao 6 [.agg (Zdo n)] (fun V=>V= .v (.i .i64) (ZeC n)):=by
 refine Zai Zag Tryz.func6 ?_
 refine Zae ?_
 refine ZbB ?_
 refine Zac ?_
 refine Zaf ?_
 cases g1:decide ((n.nodes.length:Int)>(24:Int))with
 |true=>
  have j:ZeC n=2:=ZcP (by rw[ZdJ,g1];simp)
  refine Zae ?_
  refine Zac ?_
  refine Zap rfl (fun _=>rfl) rfl rfl rfl ?_
  iterate 3 refine Zac ?_
  refine Zah g1 ?_
  refine Zah g1 ?_
  refine Zah g1 ?_
  refine Zah g1 ?_
  refine Zat g1 ?_
  refine Zac ?_
  refine Zah rfl ?_
  refine Zah rfl ?_
  refine Zah rfl ?_
  refine Zah rfl ?_
  refine Zat rfl ?_
  refine Zac ?_
  refine Zah rfl ?_
  refine Zah rfl ?_
  refine Zah rfl ?_
  refine Zah rfl ?_
  refine Zat rfl ?_
  refine Zac ?_
  refine Zah rfl ?_
  refine Zah rfl ?_
  refine Zah rfl ?_
  refine Zah rfl ?_
  refine Zat rfl ?_
  refine Zac ?_
  refine Zah rfl ?_
  refine Zah rfl ?_
  refine Zah rfl ?_
  refine Zah rfl ?_
  refine Zat rfl ?_
  refine Zaf ?_
  refine brT g1 ?_
  refine Zae ?_
  refine Zac ?_
  refine Zaf ?_
  exact congrArg (fun x=>SV.v (.i .i64) x) j.symm
 |false=>
  cases g2:decide ((n.sws.length:Int)>(32:Int))with
  |true=>
   have j:ZeC n=2:=ZcP (by rw[ZdJ,g1,g2];simp)
   refine Zae ?_
   refine Zac ?_
   refine Zap rfl (fun _=>rfl) rfl rfl rfl ?_
   iterate 3 refine Zac ?_
   refine Zab g1 ?_
   refine Zaj rfl rfl rfl g1 (fun _=>rfl) rfl rfl rfl ?_
   refine Zab g1 ?_
   refine Zab g1 ?_
   refine Zal g1 ?_
   refine Zac ?_
   refine Zah g2 ?_
   refine Zah g2 ?_
   refine Zah g2 ?_
   refine Zah g2 ?_
   refine Zat g2 ?_
   refine Zac ?_
   refine Zah rfl ?_
   refine Zah rfl ?_
   refine Zah rfl ?_
   refine Zah rfl ?_
   refine Zat rfl ?_
   refine Zac ?_
   refine Zah rfl ?_
   refine Zah rfl ?_
   refine Zah rfl ?_
   refine Zah rfl ?_
   refine Zat rfl ?_
   refine Zac ?_
   refine Zah rfl ?_
   refine Zah rfl ?_
   refine Zah rfl ?_
   refine Zah rfl ?_
   refine Zat rfl ?_
   refine Zaf ?_
   refine brT g2 ?_
   refine Zae ?_
   refine Zac ?_
   refine Zaf ?_
   exact congrArg (fun x=>SV.v (.i .i64) x) j.symm
  |false=>
   cases g3:decide ((n.brs.length:Int)>(24:Int))with
   |true=>
    have j:ZeC n=2:=ZcP (by rw[ZdJ,g1,g2,g3];simp)
    refine Zae ?_
    refine Zac ?_
    refine Zap rfl (fun _=>rfl) rfl rfl rfl ?_
    iterate 3 refine Zac ?_
    refine Zab g1 ?_
    refine Zaj rfl rfl rfl g1 (fun _=>rfl) rfl rfl rfl ?_
    refine Zab g1 ?_
    refine Zab g1 ?_
    refine Zal g1 ?_
    refine Zac ?_
    refine Zab g2 ?_
    refine Zaj rfl rfl rfl g2 (fun _=>rfl) rfl rfl rfl ?_
    refine Zab g2 ?_
    refine Zab g2 ?_
    refine Zal g2 ?_
    refine Zac ?_
    refine Zah g3 ?_
    refine Zah g3 ?_
    refine Zah g3 ?_
    refine Zah g3 ?_
    refine Zat g3 ?_
    refine Zac ?_
    refine Zah rfl ?_
    refine Zah rfl ?_
    refine Zah rfl ?_
    refine Zah rfl ?_
    refine Zat rfl ?_
    refine Zac ?_
    refine Zah rfl ?_
    refine Zah rfl ?_
    refine Zah rfl ?_
    refine Zah rfl ?_
    refine Zat rfl ?_
    refine Zaf ?_
    refine brT g3 ?_
    refine Zae ?_
    refine Zac ?_
    refine Zaf ?_
    exact congrArg (fun x=>SV.v (.i .i64) x) j.symm
   |false=>
    cases g4:decide ((n.gens.length:Int)>(10:Int))with
    |true=>
     have j:ZeC n=2:=ZcP (by rw[ZdJ,g1,g2,g3,g4];simp)
     refine Zae ?_
     refine Zac ?_
     refine Zap rfl (fun _=>rfl) rfl rfl rfl ?_
     iterate 3 refine Zac ?_
     refine Zab g1 ?_
     refine Zaj rfl rfl rfl g1 (fun _=>rfl) rfl rfl rfl ?_
     refine Zab g1 ?_
     refine Zab g1 ?_
     refine Zal g1 ?_
     refine Zac ?_
     refine Zab g2 ?_
     refine Zaj rfl rfl rfl g2 (fun _=>rfl) rfl rfl rfl ?_
     refine Zab g2 ?_
     refine Zab g2 ?_
     refine Zal g2 ?_
     refine Zac ?_
     refine Zab g3 ?_
     refine Zaj rfl rfl rfl g3 (fun _=>rfl) rfl rfl rfl ?_
     refine Zab g3 ?_
     refine Zab g3 ?_
     refine Zal g3 ?_
     refine Zac ?_
     refine Zah g4 ?_
     refine Zah g4 ?_
     refine Zah g4 ?_
     refine Zah g4 ?_
     refine Zat g4 ?_
     refine Zac ?_
     refine Zah rfl ?_
     refine Zah rfl ?_
     refine Zah rfl ?_
     refine Zah rfl ?_
     refine Zat rfl ?_
     refine Zaf ?_
     refine brT g4 ?_
     refine Zae ?_
     refine Zac ?_
     refine Zaf ?_
     exact congrArg (fun x=>SV.v (.i .i64) x) j.symm
    |false=>
     cases g5:decide ((n.loads.length:Int)>(12:Int))with
     |true=>
      have j:ZeC n=2:=ZcP (by rw[ZdJ,g1,g2,g3,g4,g5];simp)
      refine Zae ?_
      refine Zac ?_
      refine Zap rfl (fun _=>rfl) rfl rfl rfl ?_
      iterate 3 refine Zac ?_
      refine Zab g1 ?_
      refine Zaj rfl rfl rfl g1 (fun _=>rfl) rfl rfl rfl ?_
      refine Zab g1 ?_
      refine Zab g1 ?_
      refine Zal g1 ?_
      refine Zac ?_
      refine Zab g2 ?_
      refine Zaj rfl rfl rfl g2 (fun _=>rfl) rfl rfl rfl ?_
      refine Zab g2 ?_
      refine Zab g2 ?_
      refine Zal g2 ?_
      refine Zac ?_
      refine Zab g3 ?_
      refine Zaj rfl rfl rfl g3 (fun _=>rfl) rfl rfl rfl ?_
      refine Zab g3 ?_
      refine Zab g3 ?_
      refine Zal g3 ?_
      refine Zac ?_
      refine Zab g4 ?_
      refine Zaj rfl rfl rfl g4 (fun _=>rfl) rfl rfl rfl ?_
      refine Zab g4 ?_
      refine Zab g4 ?_
      refine Zal g4 ?_
      refine Zac ?_
      refine Zah g5 ?_
      refine Zah g5 ?_
      refine Zah g5 ?_
      refine Zah g5 ?_
      refine Zat g5 ?_
      refine Zaf ?_
      refine brT g5 ?_
      refine Zae ?_
      refine Zac ?_
      refine Zaf ?_
      exact congrArg (fun x=>SV.v (.i .i64) x) j.symm
     |false=>
      cases g6:decide ((n.stores.length:Int)>(4:Int))with
      |true=>
       have j:ZeC n=2:=ZcP (by rw[ZdJ,g1,g2,g3,g4,g5,g6];simp)
       refine Zae ?_
       refine Zac ?_
       refine Zap rfl (fun _=>rfl) rfl rfl rfl ?_
       iterate 3 refine Zac ?_
       refine Zab g1 ?_
       refine Zaj rfl rfl rfl g1 (fun _=>rfl) rfl rfl rfl ?_
       refine Zab g1 ?_
       refine Zab g1 ?_
       refine Zal g1 ?_
       refine Zac ?_
       refine Zab g2 ?_
       refine Zaj rfl rfl rfl g2 (fun _=>rfl) rfl rfl rfl ?_
       refine Zab g2 ?_
       refine Zab g2 ?_
       refine Zal g2 ?_
       refine Zac ?_
       refine Zab g3 ?_
       refine Zaj rfl rfl rfl g3 (fun _=>rfl) rfl rfl rfl ?_
       refine Zab g3 ?_
       refine Zab g3 ?_
       refine Zal g3 ?_
       refine Zac ?_
       refine Zab g4 ?_
       refine Zaj rfl rfl rfl g4 (fun _=>rfl) rfl rfl rfl ?_
       refine Zab g4 ?_
       refine Zab g4 ?_
       refine Zal g4 ?_
       refine Zac ?_
       refine Zab g5 ?_
       refine Zaj rfl rfl rfl g5 (fun _=>rfl) rfl rfl rfl ?_
       refine Zab g5 ?_
       refine Zab g5 ?_
       refine Zal g5 ?_
       refine Zaf ?_
       refine brT g6 ?_
       refine Zae ?_
       refine Zac ?_
       refine Zaf ?_
       exact congrArg (fun x=>SV.v (.i .i64) x) j.symm
      |false=>
       refine Zae ?_
       refine Zac ?_
       refine Zap rfl (fun _=>rfl) rfl rfl rfl ?_
       iterate 3 refine Zac ?_
       refine Zab g1 ?_
       refine Zaj rfl rfl rfl g1 (fun _=>rfl) rfl rfl rfl ?_
       refine Zab g1 ?_
       refine Zab g1 ?_
       refine Zal g1 ?_
       refine Zac ?_
       refine Zab g2 ?_
       refine Zaj rfl rfl rfl g2 (fun _=>rfl) rfl rfl rfl ?_
       refine Zab g2 ?_
       refine Zab g2 ?_
       refine Zal g2 ?_
       refine Zac ?_
       refine Zab g3 ?_
       refine Zaj rfl rfl rfl g3 (fun _=>rfl) rfl rfl rfl ?_
       refine Zab g3 ?_
       refine Zab g3 ?_
       refine Zal g3 ?_
       refine Zac ?_
       refine Zab g4 ?_
       refine Zaj rfl rfl rfl g4 (fun _=>rfl) rfl rfl rfl ?_
       refine Zab g4 ?_
       refine Zab g4 ?_
       refine Zal g4 ?_
       refine Zac ?_
       refine Zab g5 ?_
       refine Zaj rfl rfl rfl g5 (fun _=>rfl) rfl rfl rfl ?_
       refine Zab g5 ?_
       refine Zab g5 ?_
       refine Zal g5 ?_
       refine Zaf ?_
       refine brF g6 ?_
       have J:big n=false:=by rw[ZdJ,g1,g2,g3,g4,g5,g6];rfl
       have j:=ZwH J
       have I:=J
       simp only[big,Xbg,decide_eq_false_iff_not]at I
       obtain⟨b1,b2,b3,b4,b5,b6⟩:=I
       have hI:=ZwE n J
       have R:=Zxz (Zdo n) n.nodes (Zcz n) (by omega)
       have U:=ZxU n n.nodes (ZrU n) (by omega) (by omega) (ZvM J) (ZwL n)
       rw[j]
       refine Zae ?_
       refine ZbB ?_
       refine Zaf ?_
       refine Zae ?_
       iterate 2 refine Zac ?_
       refine Zaf ?_
       refine Zae ?_
       refine Zac ?_
       refine Zap rfl (fun _=>rfl) rfl rfl rfl ?_
       iterate 2 refine Zac ?_
       refine Zaf ?_
       refine(R.ent ?_).through ?_
       ·refine Ent.trans (tm1:=yNo n.nodes 0) (hp1:=[.cell (Zdo n) true, .cell [.nils] true]) (Zaq ⟨rfl,rfl,rfl,rfl,rfl,trivial⟩) ?_
        refine Zas (σ:=[.is 0, .is 1, .nil]) rfl rfl ?_ ?_
        ·exact⟨⟨rfl,rfl⟩,⟨rfl,trivial,⟨rfl,rfl⟩,trivial⟩,rfl,rfl,rfl,trivial⟩
        ·exact⟨⟨⟨rfl,rfl,rfl,rfl,rfl,rfl,trivial⟩,id⟩,⟨⟨⟨rfl,rfl,rfl⟩,trivial⟩,id⟩,rfl,trivial⟩
       rintro _ tm hp' (⟨rfl,C,hE⟩|⟨rfl,C,hE⟩)
       ·refine⟨_,_,hE, ?_⟩
        rw[ZpZ C]
        show wp _ _ _ _ _ _ _ _ _
        refine Zae ?_
        refine Zap rfl (fun _=>rfl) rfl rfl rfl ?_
        refine Zad rfl ((hI).mono ?_)
        rintro _ rfl
        refine Zaa rfl rfl ?_
        iterate 2 refine Zac ?_
        refine Zaf ?_
        refine(U.ent ?_).through ?_
        ·exact Zaq ⟨rfl,rfl,rfl,rfl,rfl,trivial⟩
        rintro _ tm hp' (⟨rfl,C,hE⟩|⟨rfl,C,hE⟩)
        ·refine⟨_,_,hE, ?_⟩
         show wp _ _ _ _ _ _ _ _ _
         refine Zae ?_
         refine Zac ?_
         refine Zaf ?_
         exact congrArg (fun x=>SV.v (.i .i64) x) C.symm
        ·exact⟨_,_,hE,rfl⟩
       ·refine⟨_,_,hE, ?_⟩
        exact congrArg (fun x=>SV.v (.i .i64) x) (Zp2 C).symm
open Go.Am Go.Tx Ne Dv Go.Lib
abbrev SL:=Nat×List Go2
def ZBw (n:Net) (j:List Int) (C:List (List Txt)) (a:SL):TM:=zK n j C a.2 a.1
def ZBq (n:Net) (a:SL):List SM:=hK n a.2
def Zwd (n:Net) (j:List (List Txt)) (a:SL):Prop:=a.1≤j.length∧gOK n a.2∧a.2.length≤a.1∧Zdc a.2≤200*(a.2.length:Int)∧0≤Zdc a.2
def ZyJ (j:List (List Txt)) (a:SL):Nat:=j.length-a.1
def ZBs (e:Ex) (tm:TM) (hp:List SM):Prop:=e= .exit 0∧Ent 0 tm hp [] []
def lkL (n:Net) (j:List Int) (C:List (List Txt)) (a:SL):Ex→TM→List SM→Prop:=ZqS 0 (ZBw n j C) (ZBq n) (Zwd n C) (ZyJ C) a ZBs
theorem Zvm (n:Net) (j:List Int) (C:List (List Txt)) (R:C.length≤6) (i:Nat) (g I:List Go2) (hi:i<C.length) (hI:Zwd n C (i+1,I)):CodeOK Tryz.prog Zao 0 cxL (ZeN 3 (Za4 Tryz.f3 13)) (zK n j C I i) (hK n I) (lkL n j C (i,g)):=by
 have J:=congrArg (fun x=>some (SV.v (.i .i64) x)) (Zca (k:=i) (by omega))
 refine Zbs Zag ?_
 refine Zae ?_
 iterate 2 refine Zac ?_
 refine Zaf ?_
 exact⟨(i+1,I),hI,by show C.length-(i+1)<C.length-i;omega,Za6 [0,1,2,3,4,5,6,7] rfl ⟨rfl,rfl,rfl,rfl,rfl,rfl,rfl,rfl,trivial⟩ ⟨rfl,rfl,rfl,rfl,rfl,rfl,rfl,rfl,J,trivial⟩⟩
theorem Zgi (e:Int):(!decide (e=e))=false:=by simp
theorem ZxV (n:Net) (U:Fine n) (j:List Int) (I:List (List Txt)) (g:List Go2) (hg:gOK n g) (ht:Zdc g≤200000) (i:Nat) (ev:Int) (C:decide (ev=0)=false) {K:Ex→TM→List SM→Prop} (R: ∀tm hp,Ent 0 tm hp (zK n j I g i) (hK n g)→K .normal tm hp):
 CodeOK Tryz.prog Zao 0 cxL (ZeN 6 ZwQ) ((15, .nils)::(16, .v IC ev)::(17, .v IC ev)::zK n j I g i) (hK n g) K:=by
 have J:(!decide (ev=0))=true:=by rw[C];rfl
 refine Za3 (Zbs Zag ?_)
 refine Zae ?_
 iterate 4 refine Zac ?_
 refine Zab (Zgi ev) ?_
 refine Zab (Zgi ev) ?_
 refine Zab (Zgi ev) ?_
 refine Zab J ?_
 refine Zab J ?_
 refine Zab J ?_
 refine Za0 rfl rfl rfl (Zgi ev) rfl rfl J rfl rfl rfl ?_
 refine Zal (Zgi ev) ?_
 refine Zaf ?_
 refine Xaa (fun h=>by cases h) (fun _=> ?_)
 show CodeOK _ _ _ _ _ _ _ _
 refine Za3 (Zbs Zag ?_)
 refine Zae ?_
 iterate 2 refine Zac ?_
 refine Zaf ?_
 refine brF C ?_
 show CodeOK _ _ _ _ _ _ _ _
 refine(ZoX n U j I g hg ht i ev [] (fun h=>absurd h (of_decide_eq_false C)) R).ent ?_
 refine(Zg6 (k:=15) (ct:= .s) (r:=(16, .v IC ev)::zK n j I g i) (Xao _) rfl ⟨rfl,rfl,rfl,rfl,rfl,rfl,rfl,rfl,rfl,rfl,trivial⟩).trans ?_
 exact Za6 [0,1,2,3,4,5,6,7,8] rfl ⟨rfl,rfl,rfl,rfl,rfl,rfl,rfl,rfl,rfl,trivial⟩ ⟨rfl,rfl,rfl,rfl,rfl,rfl,rfl,rfl,rfl,rfl,rfl,trivial⟩
theorem ZwY (n:Net) (hf:Fine n) (R:List Int) (fl:List (List Txt)) (g:List Go2) (hg:gOK n g) (i:Nat) (af:i<fl.length) (h6:fl.length≤6) (ay:g.length≤i) (ak:Zdc g≤200*(g.length:Int)) (ad:0≤Zdc g) (f:List Txt) (ag: ∀a∈f,a.length≤9223372036854775806) (s:Int) (gs:R[(i:Int).toNat]? =some s) (al:200<s→200000<s) {K:Ex→TM→List SM→Prop} (ah: ∀g',Zwd n fl (i+1,g')→ ∀tm hp,Ent 0 tm hp (zK n R fl g' i) (hK n g')→K .normal tm hp):
 CodeOK Tryz.prog Zao 0 cxL (ZeN 2 ZwQ) ((13,nt i)::(14, .v (.l .s) f)::zK n R fl g i) (hK n g) K:=by
 have ax:=hg.1
 have az:Zdc g≤1200:=by omega
 have hE:=ZyM n hf (fun j=>ZbT n j g) (Zdc g) ⟨ad,by omega⟩ (gF g) (gT g) f ag s (fun j hj=>by
  have h0:0≤lim (brA n j):=by
   obtain⟨x,gx,_⟩:=ZfA hj
   rw[ZiK gx]
   exact(ZqG hf (XaI gx)).1
  have h2:=(Zk8 h0 g fun x hx=>by have:=(hg.2 x hx).2.2.1;omega).1
  exact⟨h2.1,h2.2.1⟩)
 have hV:=Zqj f ag
 have an:Zwd n fl (i+1,g):=⟨af,hg,by show g.length≤i+1;omega,ak,ad⟩
 have aa:=fun ev ao=>ZxV n hf R fl g hg (by omega) i ev ao (ah g an)
 refine Za3 (Zbs Zag ?_)
 cases C:decide (ZlF f=0)with
 |false=>
  have J:Zci n.brs.length (Zdc g) f s=ZlF f:=by rw[Zci,C];rfl
  rw[J,C]at hE
  refine Zae ?_
  iterate 4 refine Zac ?_
  refine Zbb rfl (fun _=>rfl) (Xaj i) gs rfl rfl ?_
  refine Zac ?_
  refine Zad rfl ((hE).mono ?_)
  rintro _ _ ⟨rfl,rfl⟩
  refine Zaa rfl rfl ?_
  iterate 5 refine Zac ?_
  refine Zaf ?_
  show CodeOK _ _ _ _ _ _ _ _
  refine Za3 (Zbs Zag ?_)
  refine Zae ?_
  refine Zac ?_
  refine Zad rfl ((hV).mono ?_)
  rintro _ rfl
  refine Zaa rfl rfl ?_
  refine Zac ?_
  refine Zaf ?_
  show CodeOK _ _ _ _ _ _ _ _
  refine Za3 (Zbs Zag ?_)
  refine Zae ?_
  iterate 3 refine Zac ?_
  refine Zah C ?_
  refine Zah C ?_
  refine Zah C ?_
  refine Zah C ?_
  refine Zah C ?_
  refine Zah C ?_
  refine Zal C ?_
  refine Zaf ?_
  refine Xaa (fun h=>by cases h) (fun _=> ?_)
  show CodeOK _ _ _ _ _ _ _ _
  refine Za3 (Zbs Zag ?_)
  refine Zae ?_
  iterate 3 refine Zac ?_
  refine Zah C ?_
  refine Zah C ?_
  refine Zah C ?_
  refine Zah C ?_
  refine Zah C ?_
  refine Zah C ?_
  refine Zcs ?_
  refine Zcs ?_
  refine Zcs ?_
  refine Zcs ?_
  refine Zcs ?_
  refine Zah C ?_
  refine Zal C ?_
  refine Zaf ?_
  refine Xaa (fun h=>by cases h) (fun _=> ?_)
  show CodeOK _ _ _ _ _ _ _ _
  exact(aa (ZlF f) C).ent (Zaq ⟨rfl,rfl,rfl,rfl,rfl,rfl,rfl,rfl,rfl,rfl,rfl,rfl,trivial⟩)
 |true=>
  cases hB:(!decide ((f.length:Int)=(n.brs.length:Int)))with
  |true=>
   have J:Zci n.brs.length (Zdc g) f s=3:=by rw[Zci,C,hB];rfl
   rw[J]at hE
   refine Zae ?_
   iterate 4 refine Zac ?_
   refine Zbb rfl (fun _=>rfl) (Xaj i) gs rfl rfl ?_
   refine Zac ?_
   refine Zad rfl ((hE).mono ?_)
   rintro _ _ ⟨rfl,rfl⟩
   refine Zaa rfl rfl ?_
   iterate 5 refine Zac ?_
   refine Zaf ?_
   show CodeOK _ _ _ _ _ _ _ _
   refine Za3 (Zbs Zag ?_)
   refine Zae ?_
   refine Zac ?_
   refine Zad rfl ((hV).mono ?_)
   rintro _ rfl
   refine Zaa rfl rfl ?_
   refine Zac ?_
   refine Zaf ?_
   show CodeOK _ _ _ _ _ _ _ _
   refine Za3 (Zbs Zag ?_)
   refine Zae ?_
   iterate 3 refine Zac ?_
   refine Zab C ?_
   refine Zab C ?_
   refine Zab C ?_
   refine Zaj rfl rfl rfl C (fun _=>rfl) rfl rfl rfl ?_
   refine Zab C ?_
   refine Zab C ?_
   refine Zat C ?_
   refine Zaf ?_
   refine brT hB ?_
   refine Zae ?_
   refine Zac ?_
   refine Zaf ?_
   show CodeOK _ _ _ _ _ _ _ _
   refine Za3 (Zbs Zag ?_)
   refine Zae ?_
   iterate 3 refine Zac ?_
   refine Zah rfl ?_
   refine Zah rfl ?_
   refine Zah rfl ?_
   refine Zah rfl ?_
   refine Zah rfl ?_
   refine Zah rfl ?_
   refine Zcs ?_
   refine Zcs ?_
   refine Zcs ?_
   refine Zcs ?_
   refine Zcs ?_
   refine Zah rfl ?_
   refine Zal rfl ?_
   refine Zaf ?_
   refine Xaa (fun h=>by cases h) (fun _=> ?_)
   show CodeOK _ _ _ _ _ _ _ _
   exact(aa 3 rfl).ent (Zaq ⟨rfl,rfl,rfl,rfl,rfl,rfl,rfl,rfl,rfl,rfl,rfl,rfl,trivial⟩)
  |false=>
   cases I:decide (s<1)with
   |true=>
    have J:Zci n.brs.length (Zdc g) f s=12:=by rw[Zci,C,hB,I];rfl
    rw[J]at hE
    refine Zae ?_
    iterate 4 refine Zac ?_
    refine Zbb rfl (fun _=>rfl) (Xaj i) gs rfl rfl ?_
    refine Zac ?_
    refine Zad rfl ((hE).mono ?_)
    rintro _ _ ⟨rfl,rfl⟩
    refine Zaa rfl rfl ?_
    iterate 5 refine Zac ?_
    refine Zaf ?_
    show CodeOK _ _ _ _ _ _ _ _
    refine Za3 (Zbs Zag ?_)
    refine Zae ?_
    refine Zac ?_
    refine Zad rfl ((hV).mono ?_)
    rintro _ rfl
    refine Zaa rfl rfl ?_
    refine Zac ?_
    refine Zaf ?_
    show CodeOK _ _ _ _ _ _ _ _
    refine Za3 (Zbs Zag ?_)
    refine Zae ?_
    iterate 3 refine Zac ?_
    refine Zab C ?_
    refine Zab C ?_
    refine Zab C ?_
    refine Zaj rfl rfl rfl C (fun _=>rfl) rfl rfl rfl ?_
    refine Zab C ?_
    refine Zab C ?_
    refine Zat C ?_
    refine Zaf ?_
    refine brF hB ?_
    show CodeOK _ _ _ _ _ _ _ _
    refine Za3 (Zbs Zag ?_)
    refine Zae ?_
    iterate 3 refine Zac ?_
    refine Zab C ?_
    refine Zab C ?_
    refine ZbZ rfl rfl rfl C (fun _=>rfl) (Xaj i) gs rfl rfl ?_
    refine Zab C ?_
    refine Zab C ?_
    refine Zab C ?_
    refine Zah I ?_
    refine Zah I ?_
    refine Zah I ?_
    refine Zah I ?_
    refine Zah I ?_
    refine Za0 rfl rfl rfl C rfl rfl I rfl rfl rfl ?_
    refine Zat C ?_
    refine Zaf ?_
    refine brT I ?_
    refine Zae ?_
    refine Zac ?_
    refine Zaf ?_
    show CodeOK _ _ _ _ _ _ _ _
    exact(aa 12 rfl).ent (Zaq ⟨rfl,rfl,rfl,rfl,rfl,rfl,rfl,rfl,rfl,rfl,rfl,rfl,trivial⟩)
   |false=>
    cases hD:decide (200000<s)with
    |true=>
     have J:Zci n.brs.length (Zdc g) f s=12:=by
      have:decide (200000-Zdc g<s)=true:=decide_eq_true (by have:=of_decide_eq_true hD;omega)
      rw[Zci,C,hB,this,Bool.or_true];rfl
     rw[J]at hE
     refine Zae ?_
     iterate 4 refine Zac ?_
     refine Zbb rfl (fun _=>rfl) (Xaj i) gs rfl rfl ?_
     refine Zac ?_
     refine Zad rfl ((hE).mono ?_)
     rintro _ _ ⟨rfl,rfl⟩
     refine Zaa rfl rfl ?_
     iterate 5 refine Zac ?_
     refine Zaf ?_
     show CodeOK _ _ _ _ _ _ _ _
     refine Za3 (Zbs Zag ?_)
     refine Zae ?_
     refine Zac ?_
     refine Zad rfl ((hV).mono ?_)
     rintro _ rfl
     refine Zaa rfl rfl ?_
     refine Zac ?_
     refine Zaf ?_
     show CodeOK _ _ _ _ _ _ _ _
     refine Za3 (Zbs Zag ?_)
     refine Zae ?_
     iterate 3 refine Zac ?_
     refine Zab C ?_
     refine Zab C ?_
     refine Zab C ?_
     refine Zaj rfl rfl rfl C (fun _=>rfl) rfl rfl rfl ?_
     refine Zab C ?_
     refine Zab C ?_
     refine Zat C ?_
     refine Zaf ?_
     refine brF hB ?_
     show CodeOK _ _ _ _ _ _ _ _
     refine Za3 (Zbs Zag ?_)
     refine Zae ?_
     iterate 3 refine Zac ?_
     refine Zab C ?_
     refine Zab C ?_
     refine ZbZ rfl rfl rfl C (fun _=>rfl) (Xaj i) gs rfl rfl ?_
     refine Zab C ?_
     refine Zab C ?_
     refine Zab C ?_
     refine Zab I ?_
     refine Zab I ?_
     refine ZbZ rfl rfl rfl I (fun _=>rfl) (Xaj i) gs rfl rfl ?_
     refine Zab I ?_
     refine Zab I ?_
     refine Za9 rfl rfl rfl C rfl rfl I rfl rfl rfl ?_
     refine Zat C ?_
     refine Zaf ?_
     refine brT hD ?_
     refine Zae ?_
     refine Zac ?_
     refine Zaf ?_
     show CodeOK _ _ _ _ _ _ _ _
     exact(aa 12 rfl).ent (Zaq ⟨rfl,rfl,rfl,rfl,rfl,rfl,rfl,rfl,rfl,rfl,rfl,rfl,trivial⟩)
    |false=>
     have aq:1≤s:=by have:=of_decide_eq_false I;omega
     have a1:s≤200:=by
      have:=of_decide_eq_false hD
      rcases Int.lt_or_le 200 s with h|h
      ·have:=al h;omega
      ·exact h
     have J:Zci n.brs.length (Zdc g) f s=0:=by
      have:decide (200000-Zdc g<s)=false:=decide_eq_false (by omega)
      rw[Zci,C,hB,I,this];rfl
     have ai: ∀ps,Ze6 n (ps,s) (fun j=>ZbT n j g)=fun j=>ZbT n j (g++ [(ps,s)]):=fun ps=>funext fun j=>(Zop n j g (ps,s)).symm
     rw[J]at hE
     simp only[ai]at hE
     have hw:IntKind.i64.wrap (Zdc g+s)=Zdc g+s:=Zan (by omega) (by omega)
     have ar:(g.length+1)*24≤140737488355328:=by omega
     have au:(g.length+1)*8≤140737488355328:=by omega
     have lF:g.length=(gF g).length:=(Xa0 _).symm
     have lT:g.length=(gT g).length:=(Xa0 _).symm
     refine Zae ?_
     iterate 4 refine Zac ?_
     refine Zbb rfl (fun _=>rfl) (Xaj i) gs rfl rfl ?_
     refine Zac ?_
     refine Zad rfl ((hE).mono ?_)
     rintro _ _ ⟨ps,rfl,av,rfl,rfl⟩
     refine Zaa rfl rfl ?_
     iterate 5 refine Zac ?_
     refine Zaf ?_
     show CodeOK _ _ _ _ _ _ _ _
     have ab:(!decide ((0:Int)=ZlF (ps.map Zc0)))=false:=by rw[of_decide_eq_true C];rfl
     have hl:ps.length=n.brs.length:=by
      have h:((ps.map Zc0).length:Int)=(n.brs.length:Int):=by simpa using hB
      rw[Xa0]at h
      omega
     have aj:gOK n (g++ [(ps,s)]):=by
      refine⟨by rw[Xaw];show g.length+1≤6;omega,fun x hx=> ?_⟩
      rcases XaA.1 hx with h|h
      ·exact hg.2 x h
      ·rw[Xat.1 h]
       exact⟨hl,av,aq,by show s≤200000;omega⟩
     have U:=Zu0 g (ps,s)
     have ae:(g++ [(ps,s)]).length=g.length+1:=by rw[Xaw];rfl
     have hI:Zwd n fl (i+1,g++ [(ps,s)]):=⟨af,aj,by show(g++ [(ps,s)]).length≤i+1;omega,by show Zdc (g++ [(ps,s)])≤200*(((g++ [(ps,s)]).length:Nat):Int);rw[U,ae];show Zdc g+s≤200*((g.length+1:Nat):Int);omega,by show 0≤Zdc (g++ [(ps,s)]);rw[U];show 0≤Zdc g+s;omega⟩
     have aw:Zdc (g++ [(ps,s)])≤200000:=by rw[U];show Zdc g+s≤200000;omega
     refine Za3 (Zbs Zag ?_)
     refine Zae ?_
     refine Zac ?_
     refine Zad rfl ((hV).mono ?_)
     rintro _ rfl
     refine Zaa rfl rfl ?_
     refine Zac ?_
     refine Zaf ?_
     show CodeOK _ _ _ _ _ _ _ _
     refine Za3 (Zbs Zag ?_)
     refine Zae ?_
     iterate 3 refine Zac ?_
     refine Zab C ?_
     refine Zab C ?_
     refine Zab C ?_
     refine Zaj rfl rfl rfl C (fun _=>rfl) rfl rfl rfl ?_
     refine Zab C ?_
     refine Zab C ?_
     refine Zat C ?_
     refine Zaf ?_
     refine brF hB ?_
     show CodeOK _ _ _ _ _ _ _ _
     refine Za3 (Zbs Zag ?_)
     refine Zae ?_
     iterate 3 refine Zac ?_
     refine Zab C ?_
     refine Zab C ?_
     refine ZbZ rfl rfl rfl C (fun _=>rfl) (Xaj i) gs rfl rfl ?_
     refine Zab C ?_
     refine Zab C ?_
     refine Zab C ?_
     refine Zab I ?_
     refine Zab I ?_
     refine ZbZ rfl rfl rfl I (fun _=>rfl) (Xaj i) gs rfl rfl ?_
     refine Zab I ?_
     refine Zab I ?_
     refine Za9 rfl rfl rfl C rfl rfl I rfl rfl rfl ?_
     refine Zat C ?_
     refine Zaf ?_
     refine brF hD ?_
     show CodeOK _ _ _ _ _ _ _ _
     refine Za3 (Zbs Zag ?_)
     refine Zae ?_
     iterate 4 refine Zac ?_
     refine Zab ab ?_
     refine Zab ab ?_
     refine Zab ab ?_
     refine Zah rfl ?_
     refine Zah rfl ?_
     refine Zah rfl ?_
     refine Za9 rfl rfl rfl ab rfl rfl rfl rfl rfl rfl ?_
     refine Zal ab ?_
     refine Zaf ?_
     refine Xaa (fun h=>by cases h) (fun _=> ?_)
     show CodeOK _ _ _ _ _ _ _ _
     refine Za3 (Zbs Zag ?_)
     refine Zae ?_
     iterate 2 refine Zac ?_
     refine Zaf ?_
     refine Xaa (fun _=> ?_) (fun h=>by cases h)
     refine ZBy ?_
     refine ZeJ rfl rfl (opv (fun _=>rfl) rfl rfl ?_)
     refine ZeJ rfl rfl (opv (fun _=>rfl) rfl rfl ?_)
     refine ZeJ rfl rfl (opm (fun _=>rfl) rfl rfl ?_)
     refine Zif rfl rfl rfl rfl rfl ?_
     refine Zif rfl rfl rfl rfl rfl ?_
     refine Zif rfl rfl rfl rfl rfl ?_
     refine Zwq rfl rfl rfl (fun _=>rfl) (Xaj i) gs rfl rfl ?_
     refine Zwg rfl rfl rfl (fun _=>rfl) rfl rfl ?_
     refine ZeJ rfl rfl (opm (fun _=>rfl) rfl rfl ?_)
     refine Zif rfl rfl rfl rfl rfl ?_
     refine Zif rfl rfl rfl rfl rfl ?_
     refine Zif rfl rfl rfl rfl rfl ?_
     refine Zwq rfl rfl rfl (fun _=>rfl) (Xaj i) gs rfl rfl ?_
     refine Zwg rfl rfl rfl (fun _=>rfl) rfl rfl ?_
     refine ZxT rfl rfl (opv (fun _=>rfl) rfl rfl ?_)
     refine Zup rfl rfl (Ze1 rfl rfl rfl rfl rfl rfl rfl rfl rfl rfl rfl lF ar ?_)
     refine Zlx rfl rfl ?_
     refine Zup rfl rfl (Ze1 rfl rfl rfl rfl rfl rfl rfl rfl rfl rfl rfl lT au ?_)
     refine Zlx rfl rfl ?_
     refine ZeJ rfl rfl (opv (fun _=>rfl) rfl rfl ?_)
     refine ZeJ rfl rfl (opv (fun _=>rfl) rfl rfl ?_)
     refine ZeJ rfl rfl (opv (fun _=>rfl) rfl rfl ?_)
     refine ZBt ?_
     show CodeOK _ _ _ _ _ _ _ _
     refine(ZoX n hf R fl (g++ [(ps,s)]) aj aw i 0 _ (fun _=>rfl) (ah _ hI)).ent ?_
     have e1:=congrArg (fun t=>some (SM.cell (wS 2 3 4 5 n.brs.length t) true)) U.symm
     have e6:some (SM.row (.l .s) (gF g++ [ps.map Zc0]) true)=some (SM.row (.l .s) (gF (g++ [(ps,s)])) true):=by rw[gF,gF,XbM];rfl
     have e7:some (SM.row IC (gT g++ [s]) true)=some (SM.row IC (gT (g++ [(ps,s)])) true):=by rw[gT,gT,XbM];rfl
     have v10:=congrArg (fun k=>some (SV.ref 11 0 k none)) ae.symm
     have v11:=congrArg (fun k=>some (SV.ref 12 0 k none)) ae.symm
     have v12:=congrArg (fun x=>some (SV.v IC x)) (hw.trans U.symm)
     exact Za6 [0,1,2,3,4,5,11,12,8] rfl ⟨rfl,e1,rfl,rfl,rfl,rfl,e6,e7,rfl,trivial⟩ ⟨rfl,rfl,rfl,rfl,rfl,v10,v11,v12,rfl,rfl,rfl,trivial⟩
theorem ZuF (n:Net) (hf:Fine n) (j:List Int) (I:List (List Txt)) (h6:I.length≤6) (ah:I.length≤j.length) (hz: ∀f∈I,∀a∈f,a.length≤9223372036854775806):
 LoopOK Tryz.prog Zao 0 cxL (Za4 Tryz.f3 13) (zK n j I [] 0) (hK n []) ZBs:=by
 refine ZuP rfl (ZBw n j I) (ZBq n) (Zwd n I) (ZyJ I) ?_ (0,[]) ⟨Xao _,⟨Xao _,fun x h=>absurd h XaU⟩,Xan _,XaT _,XaT _⟩ ZaJ
 rintro⟨i,g⟩ ⟨hi,hg,aa,U,J⟩
 simp only at hi hg aa U J
 show CodeOK _ _ _ _ _ _ _ (lkL n j I (i,g))
 refine Za3 (Zbs Zag ?_)
 cases h1:decide ((i:Int)<(I.length:Int))with
 |false=>
  refine Zae ?_
  refine Zac ?_
  refine Zaf ?_
  show CodeOK _ _ _ _ _ _ _ _
  refine Za3 (Zbs Zag ?_)
  refine brF h1 ?_
  exact⟨rfl,Zbz trivial⟩
 |true=>
  have R:i<I.length:=by have:=of_decide_eq_true h1;omega
  obtain⟨f,ad,gf⟩:=ZfA R
  obtain⟨s,ai,gs⟩:=ZfA (l:=j) (i:=i) (by omega)
  have ae:=hz f (XaI ad)
  have af:Zwd n I (i+1,g):=⟨R,hg,by show g.length≤i+1;omega,U,J⟩
  have fin: ∀g',Zwd n I (i+1,g')→ ∀tm hp,Ent 0 tm hp (zK n j I g' i) (hK n g')→CodeOK Tryz.prog Zao 0 cxL (ZeN 3 (Za4 Tryz.f3 13)) tm hp (lkL n j I (i,g)):=fun g' hI tm hp hE=>(Zvm n j I h6 i g g' R hI).ent hE
  refine Zae ?_
  refine Zac ?_
  refine Zaf ?_
  show CodeOK _ _ _ _ _ _ _ _
  refine Za3 (Zbs Zag ?_)
  refine brT h1 ?_
  show CodeOK _ _ _ _ _ _ _ _
  refine Za3 (Zs4 rfl ?_)
  have ab:=fun ag=>ZwY n hf j I g hg i R h6 aa U J f ae s gs ag (K:=ZsD 1 (Zx4 (lkL n j I (i,g)) fun tm hp=>CodeOK Tryz.prog Zao 0 cxL (ZeN 3 (Za4 Tryz.f3 13)) tm hp (lkL n j I (i,g)))) fin
  refine Za3 (Zbs Zag ?_)
  refine Zae ?_
  refine Zac ?_
  refine Zbb rfl (fun _=>rfl) (Xaj i) gf rfl rfl ?_
  iterate 3 refine Zac ?_
  refine Zaf ?_
  show CodeOK _ _ _ _ _ _ _ _
  refine Za3 (Zbs Zag ?_)
  cases C:decide (200<s)with
  |true=>
   cases h3:decide (s≤200000)with
   |true=>
    refine Zae ?_
    iterate 2 refine Zac ?_
    refine Zbb rfl (fun _=>rfl) (Xaj i) gs rfl rfl ?_
    iterate 3 refine Zac ?_
    refine Zab C ?_
    refine Zab C ?_
    refine ZbZ rfl rfl rfl C (fun _=>rfl) (Xaj i) gs rfl rfl ?_
    refine Zab C ?_
    refine Zab C ?_
    refine Zat C ?_
    refine Zaf ?_
    refine brT h3 ?_
    refine fin g af _ _ ?_
    exact Za6 [0,1,2,3,4,5,6,7] rfl ⟨rfl,rfl,rfl,rfl,rfl,rfl,rfl,rfl,trivial⟩ ⟨rfl,rfl,rfl,rfl,rfl,rfl,rfl,rfl,rfl,trivial⟩
   |false=>
    refine Zae ?_
    iterate 2 refine Zac ?_
    refine Zbb rfl (fun _=>rfl) (Xaj i) gs rfl rfl ?_
    iterate 3 refine Zac ?_
    refine Zab C ?_
    refine Zab C ?_
    refine ZbZ rfl rfl rfl C (fun _=>rfl) (Xaj i) gs rfl rfl ?_
    refine Zab C ?_
    refine Zab C ?_
    refine Zat C ?_
    refine Zaf ?_
    refine brF h3 ?_
    show CodeOK _ _ _ _ _ _ _ _
    exact(ab (fun _=>by have:=of_decide_eq_false h3;omega)).ent (Zaq ⟨rfl,rfl,rfl,rfl,rfl,rfl,rfl,rfl,rfl,rfl,rfl,trivial⟩)
  |false=>
   refine Zae ?_
   iterate 2 refine Zac ?_
   refine Zbb rfl (fun _=>rfl) (Xaj i) gs rfl rfl ?_
   iterate 3 refine Zac ?_
   refine Zah C ?_
   refine Zah C ?_
   refine Zah C ?_
   refine Zah C ?_
   refine Zah C ?_
   refine Zal C ?_
   refine Zaf ?_
   refine Xaa (fun h=>by cases h) (fun _=> ?_)
   show CodeOK _ _ _ _ _ _ _ _
   exact(ab (fun h=>absurd h (of_decide_eq_false C))).ent (Zaq ⟨rfl,rfl,rfl,rfl,rfl,rfl,rfl,rfl,rfl,rfl,rfl,trivial⟩)
def Zpn (j:List (List Txt)) (C:List Int):Int:=if(6:Int)<(if(C.length:Int)<(j.length:Int)then(C.length:Int)else(j.length:Int))then(6:Int)else(if(C.length:Int)<(j.length:Int)then(C.length:Int)else(j.length:Int))
theorem Zln (n:Net) (j:List (List Txt)) (C:List Int) (hz:Zii n) (J: ∀f∈j,∀a∈f,a.length≤9223372036854775806):PureOK Tryz.prog Zao 3 [.agg (Zdo n), .v (.l (.l .s)) j, .v (.l IC) C] (fun V=>V= .v .b true):=by
 refine Zai Zag Tryz.func3 ?_
 have hF:=Zms
 have hN:=ZAz n hz
 have hE:=Zqw n
 cases I:decide (ZeC n=0)with
 |false=>
  rw[I]at hN
  have R:(!decide (ZeC n=0))=true:=by rw[I];rfl
  refine Zae ?_
  refine ZbB ?_
  refine Zac ?_
  refine Zaf ?_
  refine Zae ?_
  refine Zad rfl ((hF).mono ?_)
  rintro _ rfl
  refine Zaa rfl rfl ?_
  refine Zac ?_
  refine Zaf ?_
  refine Xaa (fun h=>by cases h) (fun _=> ?_)
  refine Zae ?_
  refine Zap rfl (fun _=>rfl) rfl rfl rfl ?_
  refine Zad rfl ((hN).mono ?_)
  rintro _ _ ⟨rfl,rfl⟩
  refine Zaa rfl rfl ?_
  iterate 5 refine Zac ?_
  refine Zaf ?_
  refine Zae ?_
  refine Zap rfl (fun _=>rfl) rfl rfl rfl ?_
  refine Zad rfl ((hE).mono ?_)
  rintro _ rfl
  refine Zaa rfl rfl ?_
  refine Zac ?_
  refine Zaf ?_
  refine Zae ?_
  iterate 2 refine Zac ?_
  refine Zaf ?_
  refine brT R ?_
  refine Zae ?_
  iterate 4 refine Zac ?_
  refine Zab (decide_eq_true (rfl:ZeC n=ZeC n)) ?_
  refine Zab (decide_eq_true (rfl:ZeC n=ZeC n)) ?_
  refine Zat (decide_eq_true (rfl:ZeC n=ZeC n)) ?_
  refine Zac ?_
  refine Zaf ?_
  rfl
 |true=>
  rw[I]at hN
  have R:(!decide (ZeC n=0))=false:=by rw[I];rfl
  have hf:=ZrI (of_decide_eq_true I)
  refine Zae ?_
  refine ZbB ?_
  refine Zac ?_
  refine Zaf ?_
  refine Zae ?_
  refine Zad rfl ((hF).mono ?_)
  rintro _ rfl
  refine Zaa rfl rfl ?_
  refine Zac ?_
  refine Zaf ?_
  refine Xaa (fun h=>by cases h) (fun _=> ?_)
  refine Zae ?_
  refine Zap rfl (fun _=>rfl) rfl rfl rfl ?_
  refine Zad rfl ((hN).mono ?_)
  rintro _ _ ⟨rfl,rfl⟩
  refine Zaa rfl rfl ?_
  iterate 5 refine Zac ?_
  refine Zaf ?_
  refine Zae ?_
  refine Zap rfl (fun _=>rfl) rfl rfl rfl ?_
  refine Zad rfl ((hE).mono ?_)
  rintro _ rfl
  refine Zaa rfl rfl ?_
  refine Zac ?_
  refine Zaf ?_
  refine Zae ?_
  iterate 2 refine Zac ?_
  refine Zaf ?_
  refine brF R ?_
  refine Zae ?_
  iterate 3 refine Zac ?_
  refine Zab rfl ?_
  refine Zab rfl ?_
  refine Zal rfl ?_
  refine Zaf ?_
  refine Xaa (fun h=>by cases h) (fun _=> ?_)
  refine Zae ?_
  refine Zac ?_
  refine Zaf ?_
  refine Zae ?_
  refine Zac ?_
  refine Zaf ?_
  refine Zae ?_
  refine Zac ?_
  refine Zaf ?_
  have hU:(0:Int)≤Zpn j C∧Zpn j C≤((j.length:Nat):Int):=by unfold Zpn;split<;>split<;>omega
  have aa:Zpn j C≤6:=by unfold Zpn;split<;>omega
  have ab:Zpn j C≤(C.length:Int):=by unfold Zpn;split<;>split<;>omega
  have hlen:(sub j 0 (Zpn j C).toNat).length=(Zpn j C).toNat:=by rw[sub,Xas,XaB];omega
  refine Zae ?_
  iterate 6 refine Zac ?_
  refine Zap rfl (fun _=>rfl) hU rfl rfl ?_
  iterate 2 refine Zac ?_
  refine Zaf ?_
  refine((ZuF n hf C (sub j 0 (Zpn j C).toNat) (by omega) (by omega) (fun f U=>J f (Xbl (XaH U)))).ent ?_).mono ?_
  ·refine(Zg6 (k:=10) (ct:= .l .s) (r:=[(2, .v (.l IC) C),(3, .ptr 0 0 0),(7, .ptr 11 0 0),(11, .nils),(12, .v IC (0:Int)),(56, .v (.l (.l .s)) (sub j 0 (Zpn j C).toNat)),(57,nt (sub j 0 (Zpn j C).toNat).length),(58,nt 0)]) (Xao _) rfl ⟨rfl,rfl,rfl,rfl,rfl,rfl,rfl,rfl,trivial⟩).trans ?_
   refine(Zg6 (k:=11) (ct:=IC) (r:=[(2, .v (.l IC) C),(3, .ptr 0 0 0),(7, .ptr 11 0 0),(10, .ref 12 0 0 none),(12, .v IC (0:Int)),(56, .v (.l (.l .s)) (sub j 0 (Zpn j C).toNat)),(57,nt (sub j 0 (Zpn j C).toNat).length),(58,nt 0)]) (Xao _) rfl ⟨rfl,rfl,rfl,rfl,rfl,rfl,rfl,rfl,trivial⟩).trans ?_
   exact Za6 [0,11,4,8,9,10,12,13] rfl ⟨rfl,rfl,rfl,congrArg (fun l=>some (SM.row qct l true)) Zcf,congrArg (fun l=>some (SM.row IC l true)) Zcf,congrArg (fun l=>some (SM.row .b l true)) Zcf,rfl,rfl,trivial⟩ ⟨rfl,rfl,rfl,rfl,rfl,rfl,rfl,rfl,rfl,trivial⟩
  rintro _ tm hp ⟨rfl,ad⟩
  show wp _ _ _ _ _ _ _ _ _
  refine Zae ?_
  refine Zac ?_
  refine Zaf ?_
  rfl
end Go.Proofs.YtapbiodcncnnfaaGreatDoor
namespace Go.Proofs
open Go.Shelf
def Tryz.lays283_ren:Go.Shelf.Ren:=⟨fun|283=>134|n=>n,fun|3=>3|9=>9|4=>4|n=>n,fun|n=>n⟩
theorem Tryz.lays283:Go.Proofs.Lays.n283 Tryz.prog Tryz.lays283_ren:={
 mixed:=by kernel_rfl
 f283:=Tryz.func134.trans (congrArg some (by kernel_rfl))
 t3:=Tryz.underlying3
 a3:=Tryz.isAgg3
 z3:=Tryz.sizeOf3
 v3:=Tryz.zeroValue3
 t4:=Tryz.underlying4
 a4:=Tryz.isAgg4
 z4:=Tryz.sizeOf4
 v4:=Tryz.zeroValue4
 t9:=Tryz.underlying9
 a9:=Tryz.isAgg9
 z9:=Tryz.sizeOf9
 v9:=Tryz.zeroValue9}
def Tryz.laysM284_ren:Go.Shelf.Ren:=⟨fun|284=>135|129=>140|317=>139|318=>141|n=>n,fun|53=>126|3=>3|212=>199|0=>0|4=>4|46=>121|5=>5|9=>9|n=>n,fun|17=>3|n=>n⟩
theorem Tryz.laysM284:Go.Proofs.LaysM.n284 Tryz.prog Tryz.laysM284_ren:={
 mixed:=by kernel_rfl
 f129:=Tryz.func140.trans (congrArg some (by kernel_rfl))
 f284:=Tryz.func135.trans (congrArg some (by kernel_rfl))
 f317:=Tryz.func139.trans (congrArg some (by kernel_rfl))
 f318:=Tryz.func141.trans (congrArg some (by kernel_rfl))
 t0:=Tryz.underlying0
 a0:=Tryz.isAgg0
 z0:=Tryz.sizeOf0
 v0:=Tryz.zeroValue0
 t3:=Tryz.underlying3
 a3:=Tryz.isAgg3
 z3:=Tryz.sizeOf3
 v3:=Tryz.zeroValue3
 t4:=Tryz.underlying4
 a4:=Tryz.isAgg4
 z4:=Tryz.sizeOf4
 v4:=Tryz.zeroValue4
 t5:=Tryz.underlying5
 a5:=Tryz.isAgg5
 z5:=Tryz.sizeOf5
 v5:=Tryz.zeroValue5
 t9:=Tryz.underlying9
 a9:=Tryz.isAgg9
 z9:=Tryz.sizeOf9
 v9:=Tryz.zeroValue9
 t46:=Tryz.underlying121
 a46:=Tryz.isAgg121
 z46:=Tryz.sizeOf121
 v46:=Tryz.zeroValue121
 t53:=Tryz.underlying126
 a53:=Tryz.isAgg126
 z53:=Tryz.sizeOf126
 v53:=Tryz.zeroValue126
 t212:=Tryz.underlying199
 a212:=Tryz.isAgg199
 z212:=Tryz.sizeOf199
 v212:=Tryz.zeroValue199
 g17:=by kernel_rfl
 i0:=by kernel_rfl
 i3:=by kernel_rfl
 i4:=by kernel_rfl
 i5:=by kernel_rfl
 i9:=by kernel_rfl
 i46:=by kernel_rfl
 i53:=by kernel_rfl
 i212:=by kernel_rfl
 m17:=by kernel_rfl}
def Tryz.lays285_ren:Go.Shelf.Ren:=⟨fun|285=>136|n=>n,fun|37=>137|53=>126|3=>3|4=>4|51=>132|9=>9|5=>5|0=>0|n=>n,fun|n=>n⟩
theorem Tryz.lays285:Go.Proofs.Lays.n285 Tryz.prog Tryz.lays285_ren:={
 mixed:=by kernel_rfl
 f285:=Tryz.func136.trans (congrArg some (by kernel_rfl))
 t0:=Tryz.underlying0
 a0:=Tryz.isAgg0
 z0:=Tryz.sizeOf0
 v0:=Tryz.zeroValue0
 t3:=Tryz.underlying3
 a3:=Tryz.isAgg3
 z3:=Tryz.sizeOf3
 v3:=Tryz.zeroValue3
 t4:=Tryz.underlying4
 a4:=Tryz.isAgg4
 z4:=Tryz.sizeOf4
 v4:=Tryz.zeroValue4
 t5:=Tryz.underlying5
 a5:=Tryz.isAgg5
 z5:=Tryz.sizeOf5
 v5:=Tryz.zeroValue5
 t9:=Tryz.underlying9
 a9:=Tryz.isAgg9
 z9:=Tryz.sizeOf9
 v9:=Tryz.zeroValue9
 t37:=Tryz.underlying137
 a37:=Tryz.isAgg137
 z37:=Tryz.sizeOf137
 v37:=Tryz.zeroValue137
 t51:=Tryz.underlying132
 a51:=Tryz.isAgg132
 z51:=Tryz.sizeOf132
 v51:=Tryz.zeroValue132
 t53:=Tryz.underlying126
 a53:=Tryz.isAgg126
 z53:=Tryz.sizeOf126
 v53:=Tryz.zeroValue126}
def Tryz.lays169_ren:Go.Shelf.Ren:=⟨fun|169=>126|n=>n,fun|70=>177|9=>9|0=>0|72=>179|37=>137|127=>186|3=>3|5=>5|n=>n,fun|n=>n⟩
theorem Tryz.lays169:Go.Proofs.Lays.n169 Tryz.prog Tryz.lays169_ren:={
 mixed:=by kernel_rfl
 f169:=Tryz.func126.trans (congrArg some (by kernel_rfl))
 t0:=Tryz.underlying0
 a0:=Tryz.isAgg0
 z0:=Tryz.sizeOf0
 v0:=Tryz.zeroValue0
 t3:=Tryz.underlying3
 a3:=Tryz.isAgg3
 z3:=Tryz.sizeOf3
 v3:=Tryz.zeroValue3
 t9:=Tryz.underlying9
 a9:=Tryz.isAgg9
 z9:=Tryz.sizeOf9
 v9:=Tryz.zeroValue9
 t37:=Tryz.underlying137
 a37:=Tryz.isAgg137
 z37:=Tryz.sizeOf137
 v37:=Tryz.zeroValue137
 t70:=Tryz.underlying177
 a70:=Tryz.isAgg177
 z70:=Tryz.sizeOf177
 v70:=Tryz.zeroValue177
 t72:=Tryz.underlying179
 a72:=Tryz.isAgg179
 z72:=Tryz.sizeOf179
 v72:=Tryz.zeroValue179
 t127:=Tryz.underlying186
 a127:=Tryz.isAgg186
 z127:=Tryz.sizeOf186
 v127:=Tryz.zeroValue186}
def Tryz.laysPu14_ren:Go.Shelf.Ren:=⟨fun|14=>70|16=>89|17=>90|19=>106|20=>107|21=>108|22=>109|23=>110|24=>111|25=>120|27=>122|26=>121|28=>129|29=>133|30=>134|31=>135|32=>136|33=>137|35=>140|34=>139|36=>141|37=>142|38=>143|39=>144|40=>145|n=>n,fun|9=>9|3=>3|22=>126|24=>128|25=>129|4=>4|34=>156|5=>5|36=>121|37=>137|0=>0|39=>158|21=>21|44=>172|47=>186|50=>189|48=>187|2=>2|52=>191|55=>194|59=>199|60=>132|20=>20|61=>200|65=>202|66=>203|67=>183|n=>n,fun|0=>1|1=>2|2=>3|3=>4|4=>5|n=>n⟩
theorem Tryz.laysPu14:Go.Proofs.LaysPu.n14 Tryz.prog Tryz.laysPu14_ren:={
 mixed:=by kernel_rfl
 f14:=Tryz.func70.trans (congrArg some (by kernel_rfl))
 f16:=Tryz.func89.trans (congrArg some (by kernel_rfl))
 f17:=Tryz.func90.trans (congrArg some (by kernel_rfl))
 f19:=Tryz.func106.trans (congrArg some (by kernel_rfl))
 f20:=Tryz.func107.trans (congrArg some (by kernel_rfl))
 f21:=Tryz.func108.trans (congrArg some (by kernel_rfl))
 f22:=Tryz.func109.trans (congrArg some (by kernel_rfl))
 f23:=Tryz.func110.trans (congrArg some (by kernel_rfl))
 f24:=Tryz.func111.trans (congrArg some (by kernel_rfl))
 f25:=Tryz.func120.trans (congrArg some (by kernel_rfl))
 f26:=Tryz.func121.trans (congrArg some (by kernel_rfl))
 f27:=Tryz.func122.trans (congrArg some (by kernel_rfl))
 f28:=Tryz.func129.trans (congrArg some (by kernel_rfl))
 f29:=Tryz.func133.trans (congrArg some (by kernel_rfl))
 f30:=Tryz.func134.trans (congrArg some (by kernel_rfl))
 f31:=Tryz.func135.trans (congrArg some (by kernel_rfl))
 f32:=Tryz.func136.trans (congrArg some (by kernel_rfl))
 f33:=Tryz.func137.trans (congrArg some (by kernel_rfl))
 f34:=Tryz.func139.trans (congrArg some (by kernel_rfl))
 f35:=Tryz.func140.trans (congrArg some (by kernel_rfl))
 f36:=Tryz.func141.trans (congrArg some (by kernel_rfl))
 f37:=Tryz.func142.trans (congrArg some (by kernel_rfl))
 f38:=Tryz.func143.trans (congrArg some (by kernel_rfl))
 f39:=Tryz.func144.trans (congrArg some (by kernel_rfl))
 f40:=Tryz.func145.trans (congrArg some (by kernel_rfl))
 t0:=Tryz.underlying0
 a0:=Tryz.isAgg0
 z0:=Tryz.sizeOf0
 v0:=Tryz.zeroValue0
 i0:=by kernel_rfl
 t2:=Tryz.underlying2
 a2:=Tryz.isAgg2
 z2:=Tryz.sizeOf2
 v2:=Tryz.zeroValue2
 i2:=by kernel_rfl
 t3:=Tryz.underlying3
 a3:=Tryz.isAgg3
 z3:=Tryz.sizeOf3
 v3:=Tryz.zeroValue3
 i3:=by kernel_rfl
 t4:=Tryz.underlying4
 a4:=Tryz.isAgg4
 z4:=Tryz.sizeOf4
 v4:=Tryz.zeroValue4
 i4:=by kernel_rfl
 t5:=Tryz.underlying5
 a5:=Tryz.isAgg5
 z5:=Tryz.sizeOf5
 v5:=Tryz.zeroValue5
 i5:=by kernel_rfl
 t9:=Tryz.underlying9
 a9:=Tryz.isAgg9
 z9:=Tryz.sizeOf9
 v9:=Tryz.zeroValue9
 i9:=by kernel_rfl
 t20:=Tryz.underlying20
 a20:=Tryz.isAgg20
 z20:=Tryz.sizeOf20
 v20:=Tryz.zeroValue20
 i20:=by kernel_rfl
 t21:=Tryz.underlying21
 a21:=Tryz.isAgg21
 z21:=Tryz.sizeOf21
 v21:=Tryz.zeroValue21
 i21:=by kernel_rfl
 t22:=Tryz.underlying126
 a22:=Tryz.isAgg126
 z22:=Tryz.sizeOf126
 v22:=Tryz.zeroValue126
 i22:=by kernel_rfl
 t24:=Tryz.underlying128
 a24:=Tryz.isAgg128
 z24:=Tryz.sizeOf128
 v24:=Tryz.zeroValue128
 i24:=by kernel_rfl
 t25:=Tryz.underlying129
 a25:=Tryz.isAgg129
 z25:=Tryz.sizeOf129
 v25:=Tryz.zeroValue129
 i25:=by kernel_rfl
 t34:=Tryz.underlying156
 a34:=Tryz.isAgg156
 z34:=Tryz.sizeOf156
 v34:=Tryz.zeroValue156
 i34:=by kernel_rfl
 c34:=by kernel_rfl
 t36:=Tryz.underlying121
 a36:=Tryz.isAgg121
 z36:=Tryz.sizeOf121
 v36:=Tryz.zeroValue121
 i36:=by kernel_rfl
 t37:=Tryz.underlying137
 a37:=Tryz.isAgg137
 z37:=Tryz.sizeOf137
 v37:=Tryz.zeroValue137
 i37:=by kernel_rfl
 t39:=Tryz.underlying158
 a39:=Tryz.isAgg158
 z39:=Tryz.sizeOf158
 v39:=Tryz.zeroValue158
 i39:=by kernel_rfl
 t44:=Tryz.underlying172
 a44:=Tryz.isAgg172
 z44:=Tryz.sizeOf172
 v44:=Tryz.zeroValue172
 i44:=by kernel_rfl
 t47:=Tryz.underlying186
 a47:=Tryz.isAgg186
 z47:=Tryz.sizeOf186
 v47:=Tryz.zeroValue186
 i47:=by kernel_rfl
 t48:=Tryz.underlying187
 a48:=Tryz.isAgg187
 z48:=Tryz.sizeOf187
 v48:=Tryz.zeroValue187
 i48:=by kernel_rfl
 t50:=Tryz.underlying189
 a50:=Tryz.isAgg189
 z50:=Tryz.sizeOf189
 v50:=Tryz.zeroValue189
 i50:=by kernel_rfl
 t52:=Tryz.underlying191
 a52:=Tryz.isAgg191
 z52:=Tryz.sizeOf191
 v52:=Tryz.zeroValue191
 i52:=by kernel_rfl
 t55:=Tryz.underlying194
 a55:=Tryz.isAgg194
 z55:=Tryz.sizeOf194
 v55:=Tryz.zeroValue194
 i55:=by kernel_rfl
 t59:=Tryz.underlying199
 a59:=Tryz.isAgg199
 z59:=Tryz.sizeOf199
 v59:=Tryz.zeroValue199
 i59:=by kernel_rfl
 t60:=Tryz.underlying132
 a60:=Tryz.isAgg132
 z60:=Tryz.sizeOf132
 v60:=Tryz.zeroValue132
 i60:=by kernel_rfl
 t61:=Tryz.underlying200
 a61:=Tryz.isAgg200
 z61:=Tryz.sizeOf200
 t65:=Tryz.underlying202
 a65:=Tryz.isAgg202
 z65:=Tryz.sizeOf202
 v65:=Tryz.zeroValue202
 i65:=by kernel_rfl
 t66:=Tryz.underlying203
 a66:=Tryz.isAgg203
 z66:=Tryz.sizeOf203
 v66:=Tryz.zeroValue203
 i66:=by kernel_rfl
 t67:=Tryz.underlying183
 a67:=Tryz.isAgg183
 z67:=Tryz.sizeOf183
 v67:=Tryz.zeroValue183
 i67:=by kernel_rfl
 g0:=by kernel_rfl
 m0:=by kernel_rfl
 g1:=by kernel_rfl
 m1:=by kernel_rfl
 g2:=by kernel_rfl
 m2:=by kernel_rfl
 g3:=by kernel_rfl
 m3:=by kernel_rfl
 g4:=by kernel_rfl
 m4:=by kernel_rfl}
def Tryz.lays219_ren:Go.Shelf.Ren:=⟨fun|219=>86|217=>102|225=>103|224=>104|267=>105|266=>118|314=>119|n=>n,fun|9=>9|3=>3|4=>4|5=>5|46=>121|146=>138|51=>132|n=>n,fun|1=>0|n=>n⟩
theorem Tryz.lays219:Go.Proofs.Lays.n219 Tryz.prog Tryz.lays219_ren:={
 mixed:=by kernel_rfl
 f217:=Tryz.func102.trans (congrArg some (by kernel_rfl))
 f219:=Tryz.func86.trans (congrArg some (by kernel_rfl))
 f224:=Tryz.func104.trans (congrArg some (by kernel_rfl))
 f225:=Tryz.func103.trans (congrArg some (by kernel_rfl))
 f266:=Tryz.func118.trans (congrArg some (by kernel_rfl))
 f267:=Tryz.func105.trans (congrArg some (by kernel_rfl))
 f314:=Tryz.func119.trans (congrArg some (by kernel_rfl))
 t3:=Tryz.underlying3
 a3:=Tryz.isAgg3
 z3:=Tryz.sizeOf3
 v3:=Tryz.zeroValue3
 t4:=Tryz.underlying4
 a4:=Tryz.isAgg4
 z4:=Tryz.sizeOf4
 v4:=Tryz.zeroValue4
 t5:=Tryz.underlying5
 a5:=Tryz.isAgg5
 z5:=Tryz.sizeOf5
 v5:=Tryz.zeroValue5
 t9:=Tryz.underlying9
 a9:=Tryz.isAgg9
 z9:=Tryz.sizeOf9
 v9:=Tryz.zeroValue9
 t46:=Tryz.underlying121
 a46:=Tryz.isAgg121
 z46:=Tryz.sizeOf121
 v46:=Tryz.zeroValue121
 t51:=Tryz.underlying132
 a51:=Tryz.isAgg132
 z51:=Tryz.sizeOf132
 v51:=Tryz.zeroValue132
 t146:=Tryz.underlying138
 a146:=Tryz.isAgg138
 z146:=Tryz.sizeOf138
 v146:=Tryz.zeroValue138
 g1:=by kernel_rfl}
end Go.Proofs
namespace Go.Proofs.YtapbiodcncnnfaaGreatDoor
open Go.Shelf Go.RowKit Dv Go.Am
theorem Zxi {s:List UInt8} (h:Zys s=true):Dg s:=by
 intro c j
 have:=Xau.1 h c j
 rw[Xag]at this
 exact⟨Xal this.1,Xal this.2⟩
theorem ZlO: ∀ (s:List UInt8) (n:Nat),Dg s→Zow n s≤4294967295→Lib.parseUintM 4294967295 n s= .ok (Zow n s)
 | [],n,_,_=>rfl
 |c::s,n,h,j=>by
  have C:=h c Xah
  have I:Dg s:=fun x J=>h x (Xai _ J)
  have R:10*n+(c.toNat-48)≤Zow n (c::s):=by
   rw[Zd6,ZiT]
   have U:(10*n+(c.toNat-48))*1≤(10*n+(c.toNat-48))*10^s.length:=Nat.mul_le_mul_left _ (Nat.one_le_pow _ _ (by decide))
   omega
  rw[Lib.parseUintM,if_pos C,if_neg (by omega),if_neg (by omega),Zd6,show n*10+(c.toNat-48)=10*n+(c.toNat-48)by omega]
  exact ZlO s _ I (by rw[←Zd6];exact j)
theorem Zrd {s:List UInt8} (h:Dg s) (C:1≤s.length) (I:s.length≤9):Lib.parseUintB 32 s= .ok (dec s):=by
 have j:s≠ []:=by rintro rfl;simp at C
 have J:=ZbI h
 have:=XaW (show 0<10 by decide) I
 rw[Lib.parseUintB,if_neg j,show 2^32-1=4294967295 from rfl]
 exact ZlO s 0 h (by show dec s≤_;omega)
theorem Zm7: ∀C v,parseG C=some v→ ∀ (S:Nat→Prop) w vals,(∀b,S b→b<w.heap.size)→Laid.ok S w→LRel w S C vals→
 Calls Tryz.prog 70 vals.toArray w fun e w'=> ∃u,e= .returned u∧Below w.heap.size w w'∧IRel w' (fun b=>S b∨(w.heap.size≤b∧b<w'.heap.size)) v u:=by
 intro C v j S w vals hS hL J
 unfold parseG at j
 split at j
 ·rename_i s b z
  split at j
  ·rename_i R
   simp only[Xag,decide_eq_true_eq]at R
   obtain⟨⟨rfl,rfl⟩,⟨U,h1⟩,I⟩:=R
   cases j
   simp only[LRel,IRel]at J
   obtain⟨_,_,rfl,rfl,_,_,rfl,rfl,_,_,rfl,rfl,rfl⟩:=J
   have I:=Xal I
   have aa:s.size=s.data.toList.length:=rfl
   refine(Any.strconv_ParseUint_10_at32_ok Tryz.laysPu14 s (by omega) _ (Zrd (Zxi U) (Xal h1) I) w).mono ?_
   rintro e w' ⟨rfl,hw⟩
   refine⟨_,rfl, ?_, ?_⟩
   ·rcases hw with rfl|rfl
    ·exact Below.refl _ _
    ·exact Lib.bytesWorld_below _ _ _
   ·simp only[IRel]
    exact⟨_,rfl,by simp[LRel,IRel]⟩
  ·cases j
 ·cases j
end Go.Proofs.YtapbiodcncnnfaaGreatDoor
