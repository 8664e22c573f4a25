/-
 The reference's list of a network's devices. (Printed by tools/genitems.py.)
-/
import Derived.Test.YtgmjnhiakpcpbaaGreatDoorU6
set_option linter.constructorNameAsVariable false
set_option linter.unusedSimpArgs false
set_option linter.unusedVariables false
namespace Go.Proofs.YtgmjnhiakpcpbaaGreatDoor
open Go.Am Go.Tx Ne
set_option maxRecDepth 100000
theorem ZiZ {F:Nat} {hp:List SM} {tm:TM} {k:Nat} {ct:CT} {tm':TM} (hF:F≤hp.length) (hk:Zcp k tm=some .nils) (htm: ∀i V,i≠k→Zcp i tm'=some V→Zcp i tm=some V) (hk':Zcp k tm'=some (.ref hp.length 0 0 none)):Ent F tm hp tm' (hp++ [.row ct [] true]):=by
 refine⟨fun φ st hFφ hs=> ?_⟩
 have hlen:=hs.hp.len
 have ext: ∀id,id<hp.length→(φ++ [none])[id]? =φ[id]? :=fun id h=>List.getElem?_append_left (by omega)
 have le:Le φ (φ++ [none]):=fun id o h=>by rw[List.getElem?_append_left (List.getElem?_eq_some_iff.1 h).1];exact h
 have new:(φ++ [(none:Option Nat)])[hp.length]? =some none:=by rw[List.getElem?_append_right (by omega),hlen,Nat.sub_self];rfl
 refine⟨φ++ [none],fun id hid=>ext id (by omega), ?_, ?_⟩
 ·intro i V hV
  by_cases e:i=k
  ·subst e
   rw[hk']at hV;cases hV
   obtain⟨q,h1,h2⟩:=hs.tm _ _ hk
   refine⟨q,h1, ?_⟩
   simp only[RV]at h2⊢
   subst h2
   exact .inr ⟨new,rfl,trivial,trivial,rfl⟩
  ·obtain⟨q,h1,h2⟩:=hs.tm _ _ (htm i V e hV)
   exact⟨q,h1,RV.mono le _ _ h2⟩
 ·refine⟨by simp[hlen], ?_, ?_⟩
  ·intro id sm o hsm ho
   by_cases hid:id<hp.length
   ·rw[List.getElem?_append_left hid]at hsm
    rw[ext id hid]at ho
    exact RM.mono le (fun _ _ _=>rfl) (hs.hp.row id sm o hsm ho)
   ·have hidl:=(List.getElem?_eq_some_iff.1 hsm).1
    simp at hidl
    have e:id=hp.length:=by omega
    subst e
    rw[List.getElem?_append_right (Nat.le_refl _),Nat.sub_self]at hsm
    cases hsm
    rw[new]at ho;cases ho
    rfl
  ·intro id id' sm sm' a hne h1 h2 h3 h4 h5 h6
   have lt: ∀id sm,(hp++ [SM.row ct [] true])[id]? =some sm→(φ++ [none])[id]? =some (some a)→id<hp.length:=by
    intro id sm h1 h5
    rcases Nat.lt_or_ge id hp.length with h|h
    ·exact h
    ·have hidl:=(List.getElem?_eq_some_iff.1 h1).1
     simp at hidl
     have e:id=hp.length:=by omega
     subst e
     rw[new]at h5;cases h5
   have l1:=lt id sm h1 h5
   have l2:=lt id' sm' h2 h6
   rw[List.getElem?_append_left l1]at h1
   rw[List.getElem?_append_left l2]at h2
   rw[ext id l1]at h5
   rw[ext id' l2]at h6
   exact hs.hp.inj id id' sm sm' a hne h1 h2 h3 h4 h5 h6
abbrev ZfB:CT:= .p .s (.p (.l .s) (.p .b .b))
theorem Zct {hp:List SM} {id rid w:Nat} {name:Txt} {ns:List Txt} {b1 b2 m m2:Bool} {k:SV→Prop} (h1:nth hp id=some (.cell [.v .s name, .ref rid 0 w none, .v .b b1, .v .b b2] m)) (h2:nth hp rid=some (.row .s ns m2)) (hw:ns.length=w) (hk:k (.v (.l ZfB) [(name,ns,b1,b2)])):ZjD hp 40 (.ref id 0 1 none) k:=by
 simp only[ZjD,h1,Zg0,h2]
 refine⟨by simp,⟨by omega, ?_⟩⟩
 rw[Zfs hw]
 exact⟨ZfB,(name,ns,b1,b2),rfl,hk⟩
theorem ZaS {hp:List SM} {id rid w:Nat} {name:Txt} {ns:List Txt} {b1 b2 m m2:Bool} (h1:nth hp id=some (.cell [.v .s name, .ref rid 0 w none, .v .b b1, .v .b b2] m)) (h2:nth hp rid=some (.row .s ns m2)):ZhO hp 40 (.ref id 0 1 none)=[id,rid]:=by
 simp only[ZhO,h1,h2,List.flatMap_cons,List.flatMap_nil,List.append_nil,List.nil_append]
def hI (netc:List SV) (acc:List Ne.Item):List SM:=[.cell netc true, .row ZfB acc true]
theorem Zdu {H:List SM} {netc:List SV} {acc:List Ne.Item} {x:SM} {y:SM} {z:SM} {i1:Nat} {acc':List Ne.Item} {tm tm':TM} (hr:rchL netc=[])
 (q1:nth H i1=some (.row ZfB acc' true)) (q2: ∀j,j≠1→j ∉ [4,3]→j<5→nth H j=nth [SM.cell netc true, .row ZfB acc true,x,y,z] j) (q3:5≤i1)
 (htm:ZrW (fun j=> [0,i1].getD j 0) 2 tm tm'):Ent 0 tm H tm' (hI netc acc'):=by
 refine ZaV [0,i1] ⟨q2 0 (by decide) (by decide) (by decide),hr,q1,rfl,trivial⟩ (by simp;omega) htm
def wSw (l:List Sw) (n i:Nat):TM:=[(1, .ptr 0 0 0),(3, .ref 1 0 n none),(15, .v (.l Ztw) l),(16,nt l.length),(17,nt i)]
set_option maxHeartbeats 16000000 in
theorem Zq9 (netc:List SV) (acc:List Ne.Item) (l:List Sw) (hr:rchL netc=[]) (ha:acc.length≤1000) (hl:l.length≤1000):
 LoopOK Tryz.prog ZaO 0 ⟨27,0,145⟩ (Zbd Tryz.f27 3) (wSw l acc.length 0) (hI netc acc)
 (fun e tm hp'=>e= .exit 0∧Ent 0 tm hp' [(1, .ptr 0 0 0),(3, .ref 1 0 (acc++l.map Ne.swI).length none)] (hI netc (acc++l.map Ne.swI))):=by
 refine ZaH Zaw rfl (fun i=>wSw l (acc++(l.take i).map Ne.swI).length i) (fun i=>hI netc (acc++(l.take i).map Ne.swI)) (fun i=>i≤l.length) (fun i=>l.length-i) ?_ 0 (Nat.zero_le _) ?_
 case refine_2=>
  have e0:acc++(l.take 0).map Ne.swI=acc:=by rw[List.take_zero,List.map_nil,List.append_nil]
  rw[e0];exact ZaW
 rintro i hi
 cases h1:decide ((i:Int)<(l.length:Int))with
 |false=>
  have e:i=l.length:=by have:=of_decide_eq_false h1;omega
  refine Zae ?_
  refine Zab ?_
  refine Zad ?_
  refine brF h1 ?_
  refine⟨rfl, ?_⟩
  rw[e,List.take_length]
  exact Zah ⟨rfl,rfl,trivial⟩
 |true=>
  have hlt:i<l.length:=by have:=of_decide_eq_true h1;omega
  have gx:l[(i:Int).toNat]? =some l[i]:=by rw[Int.toNat_natCast];exact List.getElem?_eq_getElem hlt
  have hnext:acc++(l.take (i+1)).map Ne.swI=(acc++(l.take i).map Ne.swI)++ [Ne.swI l[i]]:=by
   rw[List.take_add_one,List.getElem?_eq_getElem hlt,List.map_append,List.append_assoc];rfl
  have hlen:(acc++(l.take i).map Ne.swI).length≤2000:=by rw[List.length_append,List.length_map,List.length_take];omega
  obtain⟨x,ex⟩: ∃x,l[i]=x:=⟨_,rfl⟩
  obtain⟨ac,ea⟩: ∃ac,acc++(l.take i).map Ne.swI=ac:=⟨_,rfl⟩
  rw[ex]at gx hnext
  rw[ea]at hlen hnext
  rw[ea]
  have zC:(ac.length+1)*48≤140737488355328:=by omega
  have hL:(ac++ [Ne.swI x]).length=ac.length+1:=by rw[List.length_append];rfl
  refine Zae ?_
  refine Zab ?_
  refine Zad ?_
  refine brT h1 ?_
  refine Zae ?_
  refine ZaY rfl (fun _=>rfl) (Int.natCast_nonneg i) gx rfl rfl ?_
  refine Zab ?_
  refine Zbs ?_
  refine Zaf rfl (ZaM rfl rfl rfl rfl rfl rfl rfl rfl ?_)
  refine ZaI rfl ?_
  refine Zad ?_
  refine Zae ?_
  iterate 2 refine Zab ?_
  refine Zal rfl (fun _=>rfl) rfl rfl rfl ?_
  refine Zab ?_
  refine Zal rfl (fun _=>rfl) rfl rfl rfl ?_
  refine Zab ?_
  refine Zal rfl (fun _=>rfl) rfl rfl rfl ?_
  refine Zbs ?_
  refine Zab ?_
  refine Zbs ?_
  refine Zaf rfl (Zdv (ct:=ZfB) (l:=ac) rfl rfl rfl rfl rfl rfl rfl rfl rfl (fun kk hk=>Zct rfl rfl rfl hk) (by rw[ZaS rfl rfl];show 1 ∉ [4,3];decide) rfl rfl zC (fun i1 H1 q1 q2 q3=> ?_))
  refine Zac rfl rfl ?_
  refine Zab ?_
  refine Zad ?_
  refine Zae ?_
  iterate 2 refine Zab ?_
  refine Zad ?_
  refine⟨i+1,hlt,by show l.length-(i+1)<l.length-i;omega, ?_⟩
  have eI:((x.1,[x.2.1,x.2.2.1],true,false):Ne.Item)=Ne.swI x:=rfl
  have q1:nth H1 i1=some (SM.row ZfB (ac++ [((x.1,[x.2.1,x.2.2.1],true,false):Ne.Item)]) true):=q1
  rw[eI]at q1
  show Ent 0 _ H1 (wSw l (acc++(l.take (i+1)).map Ne.swI).length (i+1)) (hI netc (acc++(l.take (i+1)).map Ne.swI))
  rw[hnext,hL]
  exact Zdu hr q1 (fun j a1 a2 a3=>q2 j a1 (by rw[ZaS rfl rfl];exact a2) a3) q3 ⟨rfl,ZaL (by show 0<2;omega),rfl,Zbm (by show 1<2;omega),rfl,Zas,rfl,Zas,congrArg (fun x=>some (SV.v (.i .i64) x)) (Za5 (by omega)),Zas,trivial⟩
def wBr (l:List Br) (n i:Nat):TM:=[(1, .ptr 0 0 0),(3, .ref 1 0 n none),(34, .v (.l ZtR) l),(35,nt l.length),(36,nt i)]
set_option maxHeartbeats 16000000 in
theorem Zq5 (netc:List SV) (acc:List Ne.Item) (l:List Br) (hr:rchL netc=[]) (ha:acc.length≤1000) (hl:l.length≤1000):
 LoopOK Tryz.prog ZaO 0 ⟨27,0,145⟩ (Zbd Tryz.f27 8) (wBr l acc.length 0) (hI netc acc)
 (fun e tm hp'=>e= .exit 2∧Ent 0 tm hp' [(1, .ptr 0 0 0),(3, .ref 1 0 (acc++l.map brI).length none)] (hI netc (acc++l.map brI))):=by
 refine ZaH Zaw rfl (fun i=>wBr l (acc++(l.take i).map brI).length i) (fun i=>hI netc (acc++(l.take i).map brI)) (fun i=>i≤l.length) (fun i=>l.length-i) ?_ 0 (Nat.zero_le _) ?_
 case refine_2=>
  have e0:acc++(l.take 0).map brI=acc:=by rw[List.take_zero,List.map_nil,List.append_nil]
  rw[e0];exact ZaW
 rintro i hi
 cases h1:decide ((i:Int)<(l.length:Int))with
 |false=>
  have e:i=l.length:=by have:=of_decide_eq_false h1;omega
  refine Zae ?_
  refine Zab ?_
  refine Zad ?_
  refine brF h1 ?_
  refine⟨rfl, ?_⟩
  rw[e,List.take_length]
  exact Zah ⟨rfl,rfl,trivial⟩
 |true=>
  have hlt:i<l.length:=by have:=of_decide_eq_true h1;omega
  have gx:l[(i:Int).toNat]? =some l[i]:=by rw[Int.toNat_natCast];exact List.getElem?_eq_getElem hlt
  have hnext:acc++(l.take (i+1)).map brI=(acc++(l.take i).map brI)++ [brI l[i]]:=by
   rw[List.take_add_one,List.getElem?_eq_getElem hlt,List.map_append,List.append_assoc];rfl
  have hlen:(acc++(l.take i).map brI).length≤2000:=by rw[List.length_append,List.length_map,List.length_take];omega
  obtain⟨x,ex⟩: ∃x,l[i]=x:=⟨_,rfl⟩
  obtain⟨ac,ea⟩: ∃ac,acc++(l.take i).map brI=ac:=⟨_,rfl⟩
  rw[ex]at gx hnext
  rw[ea]at hlen hnext
  rw[ea]
  have zC:(ac.length+1)*48≤140737488355328:=by omega
  have hL:(ac++ [brI x]).length=ac.length+1:=by rw[List.length_append];rfl
  refine Zae ?_
  refine Zab ?_
  refine Zad ?_
  refine brT h1 ?_
  refine Zae ?_
  refine ZaY rfl (fun _=>rfl) (Int.natCast_nonneg i) gx rfl rfl ?_
  refine Zab ?_
  refine Zbs ?_
  refine Zaf rfl (ZaM rfl rfl rfl rfl rfl rfl rfl rfl ?_)
  refine ZaI rfl ?_
  refine Zad ?_
  have p1:=ZiQ x
  refine Zae ?_
  iterate 2 refine Zab ?_
  refine Zal rfl (fun _=>rfl) rfl rfl rfl ?_
  refine Zab ?_
  refine Zal rfl (fun _=>rfl) rfl rfl rfl ?_
  refine Zab ?_
  refine Zal rfl (fun _=>rfl) rfl rfl rfl ?_
  refine Zbs ?_
  refine Zal rfl (fun _=>rfl) rfl rfl rfl ?_
  refine Zaf rfl ((p1).mono ?_)
  rintro _ rfl
  refine Zac rfl rfl ?_
  iterate 2 refine Zab ?_
  refine Zbs ?_
  refine Zaf rfl (Zdv (ct:=ZfB) (l:=ac) rfl rfl rfl rfl rfl rfl rfl rfl rfl (fun kk hk=>Zct rfl rfl rfl hk) (by rw[ZaS rfl rfl];show 1 ∉ [4,3];decide) rfl rfl zC (fun i1 H1 q1 q2 q3=> ?_))
  refine Zac rfl rfl ?_
  refine Zab ?_
  refine Zad ?_
  refine Zae ?_
  iterate 2 refine Zab ?_
  refine Zad ?_
  refine⟨i+1,hlt,by show l.length-(i+1)<l.length-i;omega, ?_⟩
  have eI:((x.1,[x.2.1,x.2.2.1],true, !decide ((bif ZhU x then(4:Int)else 0)=0)):Ne.Item)=brI x:=(by unfold brI;cases ZhU x<;>rfl)
  have q1:nth H1 i1=some (SM.row ZfB (ac++ [((x.1,[x.2.1,x.2.2.1],true, !decide ((bif ZhU x then(4:Int)else 0)=0)):Ne.Item)]) true):=q1
  rw[eI]at q1
  show Ent 0 _ H1 (wBr l (acc++(l.take (i+1)).map brI).length (i+1)) (hI netc (acc++(l.take (i+1)).map brI))
  rw[hnext,hL]
  exact Zdu hr q1 (fun j a1 a2 a3=>q2 j a1 (by rw[ZaS rfl rfl];exact a2) a3) q3 ⟨rfl,ZaL (by show 0<2;omega),rfl,Zbm (by show 1<2;omega),rfl,Zas,rfl,Zas,congrArg (fun x=>some (SV.v (.i .i64) x)) (Za5 (by omega)),Zas,trivial⟩
def wGe (l:List Ge) (n i:Nat):TM:=[(1, .ptr 0 0 0),(3, .ref 1 0 n none),(56, .v (.l (.p .s (.p .s (.p (.i .i64) (.p (.i .i64) (.i .i64)))))) l),(57,nt l.length),(58,nt i)]
set_option maxHeartbeats 16000000 in
theorem ZqP (netc:List SV) (acc:List Ne.Item) (l:List Ge) (hr:rchL netc=[]) (ha:acc.length≤1000) (hl:l.length≤1000):
 LoopOK Tryz.prog ZaO 0 ⟨27,0,145⟩ (Zbd Tryz.f27 13) (wGe l acc.length 0) (hI netc acc)
 (fun e tm hp'=>e= .exit 4∧Ent 0 tm hp' [(1, .ptr 0 0 0),(3, .ref 1 0 (acc++l.map geI).length none)] (hI netc (acc++l.map geI))):=by
 refine ZaH Zaw rfl (fun i=>wGe l (acc++(l.take i).map geI).length i) (fun i=>hI netc (acc++(l.take i).map geI)) (fun i=>i≤l.length) (fun i=>l.length-i) ?_ 0 (Nat.zero_le _) ?_
 case refine_2=>
  have e0:acc++(l.take 0).map geI=acc:=by rw[List.take_zero,List.map_nil,List.append_nil]
  rw[e0];exact ZaW
 rintro i hi
 cases h1:decide ((i:Int)<(l.length:Int))with
 |false=>
  have e:i=l.length:=by have:=of_decide_eq_false h1;omega
  refine Zae ?_
  refine Zab ?_
  refine Zad ?_
  refine brF h1 ?_
  refine⟨rfl, ?_⟩
  rw[e,List.take_length]
  exact Zah ⟨rfl,rfl,trivial⟩
 |true=>
  have hlt:i<l.length:=by have:=of_decide_eq_true h1;omega
  have gx:l[(i:Int).toNat]? =some l[i]:=by rw[Int.toNat_natCast];exact List.getElem?_eq_getElem hlt
  have hnext:acc++(l.take (i+1)).map geI=(acc++(l.take i).map geI)++ [geI l[i]]:=by
   rw[List.take_add_one,List.getElem?_eq_getElem hlt,List.map_append,List.append_assoc];rfl
  have hlen:(acc++(l.take i).map geI).length≤2000:=by rw[List.length_append,List.length_map,List.length_take];omega
  obtain⟨x,ex⟩: ∃x,l[i]=x:=⟨_,rfl⟩
  obtain⟨ac,ea⟩: ∃ac,acc++(l.take i).map geI=ac:=⟨_,rfl⟩
  rw[ex]at gx hnext
  rw[ea]at hlen hnext
  rw[ea]
  have zC:(ac.length+1)*48≤140737488355328:=by omega
  have hL:(ac++ [geI x]).length=ac.length+1:=by rw[List.length_append];rfl
  refine Zae ?_
  refine Zab ?_
  refine Zad ?_
  refine brT h1 ?_
  refine Zae ?_
  refine ZaY rfl (fun _=>rfl) (Int.natCast_nonneg i) gx rfl rfl ?_
  refine Zab ?_
  refine Zbs ?_
  refine Zaf rfl (ZaM rfl rfl rfl rfl rfl rfl rfl rfl ?_)
  refine ZaI rfl ?_
  refine Zad ?_
  have p1:=Zf6 x.2.2.1 0 100000
  have p2:=Zf6 x.2.2.2.1 x.2.2.1 100000
  have p3:=Zf6 x.2.2.2.2 0 100000
  cases c1:inR x.2.2.1 0 100000 with
  |false=>
   rw[c1]at p1
   refine Zae ?_
   iterate 2 refine Zab ?_
   refine Zal rfl (fun _=>rfl) rfl rfl rfl ?_
   refine Zab ?_
   refine Zal rfl (fun _=>rfl) rfl rfl rfl ?_
   refine Zbs ?_
   refine Zab ?_
   refine Zal rfl (fun _=>rfl) rfl rfl rfl ?_
   refine Zaf rfl ((p1).mono ?_)
   rintro _ rfl
   refine Zac rfl rfl ?_
   iterate 2 refine Zab ?_
   refine Zag rfl ?_
   refine Zag rfl ?_
   refine Zag rfl ?_
   refine Zag rfl ?_
   refine Zag rfl ?_
   refine Zag rfl ?_
   refine Zaq rfl ?_
   refine Zab ?_
   refine Zag rfl ?_
   refine Zag rfl ?_
   refine Zag rfl ?_
   refine Zag rfl ?_
   refine Zaq rfl ?_
   refine Zab ?_
   refine Zbs ?_
   refine Zaf rfl (Zdv (ct:=ZfB) (l:=ac) rfl rfl rfl rfl rfl rfl rfl rfl rfl (fun kk hk=>Zct rfl rfl rfl hk) (by rw[ZaS rfl rfl];show 1 ∉ [4,3];decide) rfl rfl zC (fun i1 H1 q1 q2 q3=> ?_))
   refine Zac rfl rfl ?_
   refine Zab ?_
   refine Zad ?_
   refine Zae ?_
   iterate 2 refine Zab ?_
   refine Zad ?_
   refine⟨i+1,hlt,by show l.length-(i+1)<l.length-i;omega, ?_⟩
   have eI:((x.1,[x.2.1],false,true):Ne.Item)=geI x:=(by rw[geI,c1];rfl)
   have q1:nth H1 i1=some (SM.row ZfB (ac++ [((x.1,[x.2.1],false,true):Ne.Item)]) true):=q1
   rw[eI]at q1
   show Ent 0 _ H1 (wGe l (acc++(l.take (i+1)).map geI).length (i+1)) (hI netc (acc++(l.take (i+1)).map geI))
   rw[hnext,hL]
   exact Zdu hr q1 (fun j a1 a2 a3=>q2 j a1 (by rw[ZaS rfl rfl];exact a2) a3) q3 ⟨rfl,ZaL (by show 0<2;omega),rfl,Zbm (by show 1<2;omega),rfl,Zas,rfl,Zas,congrArg (fun x=>some (SV.v (.i .i64) x)) (Za5 (by omega)),Zas,trivial⟩
  |true=>
   rw[c1]at p1
   cases c2:inR x.2.2.2.1 x.2.2.1 100000 with
   |false=>
    rw[c2]at p2
    refine Zae ?_
    iterate 2 refine Zab ?_
    refine Zal rfl (fun _=>rfl) rfl rfl rfl ?_
    refine Zab ?_
    refine Zal rfl (fun _=>rfl) rfl rfl rfl ?_
    refine Zbs ?_
    refine Zab ?_
    refine Zal rfl (fun _=>rfl) rfl rfl rfl ?_
    refine Zaf rfl ((p1).mono ?_)
    rintro _ rfl
    refine Zac rfl rfl ?_
    iterate 2 refine Zab ?_
    refine Zaa rfl ?_
    refine Zai rfl rfl rfl rfl (fun _=>rfl) rfl rfl rfl ?_
    refine Zaa rfl ?_
    refine Zai rfl rfl rfl rfl (fun _=>rfl) rfl rfl rfl ?_
    refine Zao rfl rfl rfl rfl ((p2).mono ?_)
    rintro _ rfl
    refine Zac rfl rfl ?_
    refine Zaa rfl ?_
    refine Zap rfl ?_
    refine Zab ?_
    refine Zag rfl ?_
    refine Zag rfl ?_
    refine Zag rfl ?_
    refine Zag rfl ?_
    refine Zaq rfl ?_
    refine Zab ?_
    refine Zbs ?_
    refine Zaf rfl (Zdv (ct:=ZfB) (l:=ac) rfl rfl rfl rfl rfl rfl rfl rfl rfl (fun kk hk=>Zct rfl rfl rfl hk) (by rw[ZaS rfl rfl];show 1 ∉ [4,3];decide) rfl rfl zC (fun i1 H1 q1 q2 q3=> ?_))
    refine Zac rfl rfl ?_
    refine Zab ?_
    refine Zad ?_
    refine Zae ?_
    iterate 2 refine Zab ?_
    refine Zad ?_
    refine⟨i+1,hlt,by show l.length-(i+1)<l.length-i;omega, ?_⟩
    have eI:((x.1,[x.2.1],false,true):Ne.Item)=geI x:=(by rw[geI,c1,c2];rfl)
    have q1:nth H1 i1=some (SM.row ZfB (ac++ [((x.1,[x.2.1],false,true):Ne.Item)]) true):=q1
    rw[eI]at q1
    show Ent 0 _ H1 (wGe l (acc++(l.take (i+1)).map geI).length (i+1)) (hI netc (acc++(l.take (i+1)).map geI))
    rw[hnext,hL]
    exact Zdu hr q1 (fun j a1 a2 a3=>q2 j a1 (by rw[ZaS rfl rfl];exact a2) a3) q3 ⟨rfl,ZaL (by show 0<2;omega),rfl,Zbm (by show 1<2;omega),rfl,Zas,rfl,Zas,congrArg (fun x=>some (SV.v (.i .i64) x)) (Za5 (by omega)),Zas,trivial⟩
   |true=>
    rw[c2]at p2
    refine Zae ?_
    iterate 2 refine Zab ?_
    refine Zal rfl (fun _=>rfl) rfl rfl rfl ?_
    refine Zab ?_
    refine Zal rfl (fun _=>rfl) rfl rfl rfl ?_
    refine Zbs ?_
    refine Zab ?_
    refine Zal rfl (fun _=>rfl) rfl rfl rfl ?_
    refine Zaf rfl ((p1).mono ?_)
    rintro _ rfl
    refine Zac rfl rfl ?_
    iterate 2 refine Zab ?_
    refine Zaa rfl ?_
    refine Zai rfl rfl rfl rfl (fun _=>rfl) rfl rfl rfl ?_
    refine Zaa rfl ?_
    refine Zai rfl rfl rfl rfl (fun _=>rfl) rfl rfl rfl ?_
    refine Zao rfl rfl rfl rfl ((p2).mono ?_)
    rintro _ rfl
    refine Zac rfl rfl ?_
    refine Zaa rfl ?_
    refine Zap rfl ?_
    refine Zab ?_
    refine Zaa rfl ?_
    refine Zai rfl rfl rfl rfl (fun _=>rfl) rfl rfl rfl ?_
    refine Zao rfl rfl rfl rfl ((p3).mono ?_)
    rintro _ rfl
    refine Zac rfl rfl ?_
    refine Zaa rfl ?_
    refine Zap rfl ?_
    refine Zab ?_
    refine Zbs ?_
    refine Zaf rfl (Zdv (ct:=ZfB) (l:=ac) rfl rfl rfl rfl rfl rfl rfl rfl rfl (fun kk hk=>Zct rfl rfl rfl hk) (by rw[ZaS rfl rfl];show 1 ∉ [4,3];decide) rfl rfl zC (fun i1 H1 q1 q2 q3=> ?_))
    refine Zac rfl rfl ?_
    refine Zab ?_
    refine Zad ?_
    refine Zae ?_
    iterate 2 refine Zab ?_
    refine Zad ?_
    refine⟨i+1,hlt,by show l.length-(i+1)<l.length-i;omega, ?_⟩
    have eI:((x.1,[x.2.1],false, !inR x.2.2.2.2 0 100000):Ne.Item)=geI x:=(by rw[geI,c1,c2];rfl)
    have q1:nth H1 i1=some (SM.row ZfB (ac++ [((x.1,[x.2.1],false, !inR x.2.2.2.2 0 100000):Ne.Item)]) true):=q1
    rw[eI]at q1
    show Ent 0 _ H1 (wGe l (acc++(l.take (i+1)).map geI).length (i+1)) (hI netc (acc++(l.take (i+1)).map geI))
    rw[hnext,hL]
    exact Zdu hr q1 (fun j a1 a2 a3=>q2 j a1 (by rw[ZaS rfl rfl];exact a2) a3) q3 ⟨rfl,ZaL (by show 0<2;omega),rfl,Zbm (by show 1<2;omega),rfl,Zas,rfl,Zas,congrArg (fun x=>some (SV.v (.i .i64) x)) (Za5 (by omega)),Zas,trivial⟩
def wLo (l:List Lo) (n i:Nat):TM:=[(1, .ptr 0 0 0),(3, .ref 1 0 n none),(91, .v (.l (.p .s (.p .s (.i .i64)))) l),(92,nt l.length),(93,nt i)]
set_option maxHeartbeats 16000000 in
theorem Zra (netc:List SV) (acc:List Ne.Item) (l:List Lo) (hr:rchL netc=[]) (ha:acc.length≤1000) (hl:l.length≤1000):
 LoopOK Tryz.prog ZaO 0 ⟨27,0,145⟩ (Zbd Tryz.f27 18) (wLo l acc.length 0) (hI netc acc)
 (fun e tm hp'=>e= .exit 6∧Ent 0 tm hp' [(1, .ptr 0 0 0),(3, .ref 1 0 (acc++l.map loI).length none)] (hI netc (acc++l.map loI))):=by
 refine ZaH Zaw rfl (fun i=>wLo l (acc++(l.take i).map loI).length i) (fun i=>hI netc (acc++(l.take i).map loI)) (fun i=>i≤l.length) (fun i=>l.length-i) ?_ 0 (Nat.zero_le _) ?_
 case refine_2=>
  have e0:acc++(l.take 0).map loI=acc:=by rw[List.take_zero,List.map_nil,List.append_nil]
  rw[e0];exact ZaW
 rintro i hi
 cases h1:decide ((i:Int)<(l.length:Int))with
 |false=>
  have e:i=l.length:=by have:=of_decide_eq_false h1;omega
  refine Zae ?_
  refine Zab ?_
  refine Zad ?_
  refine brF h1 ?_
  refine⟨rfl, ?_⟩
  rw[e,List.take_length]
  exact Zah ⟨rfl,rfl,trivial⟩
 |true=>
  have hlt:i<l.length:=by have:=of_decide_eq_true h1;omega
  have gx:l[(i:Int).toNat]? =some l[i]:=by rw[Int.toNat_natCast];exact List.getElem?_eq_getElem hlt
  have hnext:acc++(l.take (i+1)).map loI=(acc++(l.take i).map loI)++ [loI l[i]]:=by
   rw[List.take_add_one,List.getElem?_eq_getElem hlt,List.map_append,List.append_assoc];rfl
  have hlen:(acc++(l.take i).map loI).length≤2000:=by rw[List.length_append,List.length_map,List.length_take];omega
  obtain⟨x,ex⟩: ∃x,l[i]=x:=⟨_,rfl⟩
  obtain⟨ac,ea⟩: ∃ac,acc++(l.take i).map loI=ac:=⟨_,rfl⟩
  rw[ex]at gx hnext
  rw[ea]at hlen hnext
  rw[ea]
  have zC:(ac.length+1)*48≤140737488355328:=by omega
  have hL:(ac++ [loI x]).length=ac.length+1:=by rw[List.length_append];rfl
  refine Zae ?_
  refine Zab ?_
  refine Zad ?_
  refine brT h1 ?_
  refine Zae ?_
  refine ZaY rfl (fun _=>rfl) (Int.natCast_nonneg i) gx rfl rfl ?_
  refine Zab ?_
  refine Zbs ?_
  refine Zaf rfl (ZaM rfl rfl rfl rfl rfl rfl rfl rfl ?_)
  refine ZaI rfl ?_
  refine Zad ?_
  have p1:=Zf6 x.2.2 0 100000
  refine Zae ?_
  iterate 2 refine Zab ?_
  refine Zal rfl (fun _=>rfl) rfl rfl rfl ?_
  refine Zab ?_
  refine Zal rfl (fun _=>rfl) rfl rfl rfl ?_
  refine Zbs ?_
  refine Zab ?_
  refine Zal rfl (fun _=>rfl) rfl rfl rfl ?_
  refine Zaf rfl ((p1).mono ?_)
  rintro _ rfl
  refine Zac rfl rfl ?_
  iterate 2 refine Zab ?_
  refine Zbs ?_
  refine Zaf rfl (Zdv (ct:=ZfB) (l:=ac) rfl rfl rfl rfl rfl rfl rfl rfl rfl (fun kk hk=>Zct rfl rfl rfl hk) (by rw[ZaS rfl rfl];show 1 ∉ [4,3];decide) rfl rfl zC (fun i1 H1 q1 q2 q3=> ?_))
  refine Zac rfl rfl ?_
  refine Zab ?_
  refine Zad ?_
  refine Zae ?_
  iterate 2 refine Zab ?_
  refine Zad ?_
  refine⟨i+1,hlt,by show l.length-(i+1)<l.length-i;omega, ?_⟩
  have eI:((x.1,[x.2.1],false, !inR x.2.2 0 100000):Ne.Item)=loI x:=rfl
  have q1:nth H1 i1=some (SM.row ZfB (ac++ [((x.1,[x.2.1],false, !inR x.2.2 0 100000):Ne.Item)]) true):=q1
  rw[eI]at q1
  show Ent 0 _ H1 (wLo l (acc++(l.take (i+1)).map loI).length (i+1)) (hI netc (acc++(l.take (i+1)).map loI))
  rw[hnext,hL]
  exact Zdu hr q1 (fun j a1 a2 a3=>q2 j a1 (by rw[ZaS rfl rfl];exact a2) a3) q3 ⟨rfl,ZaL (by show 0<2;omega),rfl,Zbm (by show 1<2;omega),rfl,Zas,rfl,Zas,congrArg (fun x=>some (SV.v (.i .i64) x)) (Za5 (by omega)),Zas,trivial⟩
def wSt (l:List Sto) (n i:Nat):TM:=[(1, .ptr 0 0 0),(3, .ref 1 0 n none),(112, .v (.l (.p .s (.p .s (.p (.i .i64) (.p (.i .i64) (.i .i64)))))) l),(113,nt l.length),(114,nt i)]
set_option maxHeartbeats 16000000 in
theorem Zry (netc:List SV) (acc:List Ne.Item) (l:List Sto) (hr:rchL netc=[]) (ha:acc.length≤1000) (hl:l.length≤1000):
 LoopOK Tryz.prog ZaO 0 ⟨27,0,145⟩ (Zbd Tryz.f27 23) (wSt l acc.length 0) (hI netc acc)
 (fun e tm hp'=>e= .exit 8∧Ent 0 tm hp' [(1, .ptr 0 0 0),(3, .ref 1 0 (acc++l.map stI).length none)] (hI netc (acc++l.map stI))):=by
 refine ZaH Zaw rfl (fun i=>wSt l (acc++(l.take i).map stI).length i) (fun i=>hI netc (acc++(l.take i).map stI)) (fun i=>i≤l.length) (fun i=>l.length-i) ?_ 0 (Nat.zero_le _) ?_
 case refine_2=>
  have e0:acc++(l.take 0).map stI=acc:=by rw[List.take_zero,List.map_nil,List.append_nil]
  rw[e0];exact ZaW
 rintro i hi
 cases h1:decide ((i:Int)<(l.length:Int))with
 |false=>
  have e:i=l.length:=by have:=of_decide_eq_false h1;omega
  refine Zae ?_
  refine Zab ?_
  refine Zad ?_
  refine brF h1 ?_
  refine⟨rfl, ?_⟩
  rw[e,List.take_length]
  exact Zah ⟨rfl,rfl,trivial⟩
 |true=>
  have hlt:i<l.length:=by have:=of_decide_eq_true h1;omega
  have gx:l[(i:Int).toNat]? =some l[i]:=by rw[Int.toNat_natCast];exact List.getElem?_eq_getElem hlt
  have hnext:acc++(l.take (i+1)).map stI=(acc++(l.take i).map stI)++ [stI l[i]]:=by
   rw[List.take_add_one,List.getElem?_eq_getElem hlt,List.map_append,List.append_assoc];rfl
  have hlen:(acc++(l.take i).map stI).length≤2000:=by rw[List.length_append,List.length_map,List.length_take];omega
  obtain⟨x,ex⟩: ∃x,l[i]=x:=⟨_,rfl⟩
  obtain⟨ac,ea⟩: ∃ac,acc++(l.take i).map stI=ac:=⟨_,rfl⟩
  rw[ex]at gx hnext
  rw[ea]at hlen hnext
  rw[ea]
  have zC:(ac.length+1)*48≤140737488355328:=by omega
  have hL:(ac++ [stI x]).length=ac.length+1:=by rw[List.length_append];rfl
  refine Zae ?_
  refine Zab ?_
  refine Zad ?_
  refine brT h1 ?_
  refine Zae ?_
  refine ZaY rfl (fun _=>rfl) (Int.natCast_nonneg i) gx rfl rfl ?_
  refine Zab ?_
  refine Zbs ?_
  refine Zaf rfl (ZaM rfl rfl rfl rfl rfl rfl rfl rfl ?_)
  refine ZaI rfl ?_
  refine Zad ?_
  have p1:=Zf6 x.2.2.1 0 100000
  have p2:=Zf6 x.2.2.2.1 0 100000
  have p3:=Zf6 x.2.2.2.2 0 100000
  cases c1:inR x.2.2.1 0 100000 with
  |false=>
   rw[c1]at p1
   refine Zae ?_
   iterate 2 refine Zab ?_
   refine Zal rfl (fun _=>rfl) rfl rfl rfl ?_
   refine Zab ?_
   refine Zal rfl (fun _=>rfl) rfl rfl rfl ?_
   refine Zbs ?_
   refine Zab ?_
   refine Zal rfl (fun _=>rfl) rfl rfl rfl ?_
   refine Zaf rfl ((p1).mono ?_)
   rintro _ rfl
   refine Zac rfl rfl ?_
   iterate 2 refine Zab ?_
   refine Zag rfl ?_
   refine Zag rfl ?_
   refine Zag rfl ?_
   refine Zag rfl ?_
   refine Zaq rfl ?_
   refine Zab ?_
   refine Zag rfl ?_
   refine Zag rfl ?_
   refine Zag rfl ?_
   refine Zag rfl ?_
   refine Zaq rfl ?_
   refine Zab ?_
   refine Zbs ?_
   refine Zaf rfl (Zdv (ct:=ZfB) (l:=ac) rfl rfl rfl rfl rfl rfl rfl rfl rfl (fun kk hk=>Zct rfl rfl rfl hk) (by rw[ZaS rfl rfl];show 1 ∉ [4,3];decide) rfl rfl zC (fun i1 H1 q1 q2 q3=> ?_))
   refine Zac rfl rfl ?_
   refine Zab ?_
   refine Zad ?_
   refine Zae ?_
   iterate 2 refine Zab ?_
   refine Zad ?_
   refine⟨i+1,hlt,by show l.length-(i+1)<l.length-i;omega, ?_⟩
   have eI:((x.1,[x.2.1],false,true):Ne.Item)=stI x:=(by rw[stI,c1];rfl)
   have q1:nth H1 i1=some (SM.row ZfB (ac++ [((x.1,[x.2.1],false,true):Ne.Item)]) true):=q1
   rw[eI]at q1
   show Ent 0 _ H1 (wSt l (acc++(l.take (i+1)).map stI).length (i+1)) (hI netc (acc++(l.take (i+1)).map stI))
   rw[hnext,hL]
   exact Zdu hr q1 (fun j a1 a2 a3=>q2 j a1 (by rw[ZaS rfl rfl];exact a2) a3) q3 ⟨rfl,ZaL (by show 0<2;omega),rfl,Zbm (by show 1<2;omega),rfl,Zas,rfl,Zas,congrArg (fun x=>some (SV.v (.i .i64) x)) (Za5 (by omega)),Zas,trivial⟩
  |true=>
   rw[c1]at p1
   cases c2:inR x.2.2.2.1 0 100000 with
   |false=>
    rw[c2]at p2
    refine Zae ?_
    iterate 2 refine Zab ?_
    refine Zal rfl (fun _=>rfl) rfl rfl rfl ?_
    refine Zab ?_
    refine Zal rfl (fun _=>rfl) rfl rfl rfl ?_
    refine Zbs ?_
    refine Zab ?_
    refine Zal rfl (fun _=>rfl) rfl rfl rfl ?_
    refine Zaf rfl ((p1).mono ?_)
    rintro _ rfl
    refine Zac rfl rfl ?_
    iterate 2 refine Zab ?_
    refine Zaa rfl ?_
    refine Zai rfl rfl rfl rfl (fun _=>rfl) rfl rfl rfl ?_
    refine Zao rfl rfl rfl rfl ((p2).mono ?_)
    rintro _ rfl
    refine Zac rfl rfl ?_
    refine Zaa rfl ?_
    refine Zap rfl ?_
    refine Zab ?_
    refine Zag rfl ?_
    refine Zag rfl ?_
    refine Zag rfl ?_
    refine Zag rfl ?_
    refine Zaq rfl ?_
    refine Zab ?_
    refine Zbs ?_
    refine Zaf rfl (Zdv (ct:=ZfB) (l:=ac) rfl rfl rfl rfl rfl rfl rfl rfl rfl (fun kk hk=>Zct rfl rfl rfl hk) (by rw[ZaS rfl rfl];show 1 ∉ [4,3];decide) rfl rfl zC (fun i1 H1 q1 q2 q3=> ?_))
    refine Zac rfl rfl ?_
    refine Zab ?_
    refine Zad ?_
    refine Zae ?_
    iterate 2 refine Zab ?_
    refine Zad ?_
    refine⟨i+1,hlt,by show l.length-(i+1)<l.length-i;omega, ?_⟩
    have eI:((x.1,[x.2.1],false,true):Ne.Item)=stI x:=(by rw[stI,c1,c2];rfl)
    have q1:nth H1 i1=some (SM.row ZfB (ac++ [((x.1,[x.2.1],false,true):Ne.Item)]) true):=q1
    rw[eI]at q1
    show Ent 0 _ H1 (wSt l (acc++(l.take (i+1)).map stI).length (i+1)) (hI netc (acc++(l.take (i+1)).map stI))
    rw[hnext,hL]
    exact Zdu hr q1 (fun j a1 a2 a3=>q2 j a1 (by rw[ZaS rfl rfl];exact a2) a3) q3 ⟨rfl,ZaL (by show 0<2;omega),rfl,Zbm (by show 1<2;omega),rfl,Zas,rfl,Zas,congrArg (fun x=>some (SV.v (.i .i64) x)) (Za5 (by omega)),Zas,trivial⟩
   |true=>
    rw[c2]at p2
    refine Zae ?_
    iterate 2 refine Zab ?_
    refine Zal rfl (fun _=>rfl) rfl rfl rfl ?_
    refine Zab ?_
    refine Zal rfl (fun _=>rfl) rfl rfl rfl ?_
    refine Zbs ?_
    refine Zab ?_
    refine Zal rfl (fun _=>rfl) rfl rfl rfl ?_
    refine Zaf rfl ((p1).mono ?_)
    rintro _ rfl
    refine Zac rfl rfl ?_
    iterate 2 refine Zab ?_
    refine Zaa rfl ?_
    refine Zai rfl rfl rfl rfl (fun _=>rfl) rfl rfl rfl ?_
    refine Zao rfl rfl rfl rfl ((p2).mono ?_)
    rintro _ rfl
    refine Zac rfl rfl ?_
    refine Zaa rfl ?_
    refine Zap rfl ?_
    refine Zab ?_
    refine Zaa rfl ?_
    refine Zai rfl rfl rfl rfl (fun _=>rfl) rfl rfl rfl ?_
    refine Zao rfl rfl rfl rfl ((p3).mono ?_)
    rintro _ rfl
    refine Zac rfl rfl ?_
    refine Zaa rfl ?_
    refine Zap rfl ?_
    refine Zab ?_
    refine Zbs ?_
    refine Zaf rfl (Zdv (ct:=ZfB) (l:=ac) rfl rfl rfl rfl rfl rfl rfl rfl rfl (fun kk hk=>Zct rfl rfl rfl hk) (by rw[ZaS rfl rfl];show 1 ∉ [4,3];decide) rfl rfl zC (fun i1 H1 q1 q2 q3=> ?_))
    refine Zac rfl rfl ?_
    refine Zab ?_
    refine Zad ?_
    refine Zae ?_
    iterate 2 refine Zab ?_
    refine Zad ?_
    refine⟨i+1,hlt,by show l.length-(i+1)<l.length-i;omega, ?_⟩
    have eI:((x.1,[x.2.1],false, !inR x.2.2.2.2 0 100000):Ne.Item)=stI x:=(by rw[stI,c1,c2];rfl)
    have q1:nth H1 i1=some (SM.row ZfB (ac++ [((x.1,[x.2.1],false, !inR x.2.2.2.2 0 100000):Ne.Item)]) true):=q1
    rw[eI]at q1
    show Ent 0 _ H1 (wSt l (acc++(l.take (i+1)).map stI).length (i+1)) (hI netc (acc++(l.take (i+1)).map stI))
    rw[hnext,hL]
    exact Zdu hr q1 (fun j a1 a2 a3=>q2 j a1 (by rw[ZaS rfl rfl];exact a2) a3) q3 ⟨rfl,ZaL (by show 0<2;omega),rfl,Zbm (by show 1<2;omega),rfl,Zas,rfl,Zas,congrArg (fun x=>some (SV.v (.i .i64) x)) (Za5 (by omega)),Zas,trivial⟩
set_option maxHeartbeats 16000000 in
theorem ZsY (n:Ne.Net) (hb:big n=false):PureOK Tryz.prog ZaO 27 [.agg (ZbD n)] (fun V=>V= .v (.l ZfB) (Zo6 n)):=by
 refine Zaz Zaw Tryz.func27 ?_
 simp only[big,Bool.or_eq_false_iff,decide_eq_false_iff_not]at hb
 obtain⟨b1,b2,b3,b4,b5,b6⟩:=hb
 have hr:=Zb4 n
 have a1:=n.sws.length_map Ne.swI
 have a2:=n.brs.length_map brI
 have a3:=n.gens.length_map geI
 have a4:=n.loads.length_map loI
 have l1:=Zq9 (ZbD n) [] n.sws hr (Nat.zero_le _) (by omega)
 have l2:=Zq5 (ZbD n) ([]++n.sws.map Ne.swI) n.brs hr (by simp only[List.length_append,List.length_nil];omega) (by omega)
 have l3:=ZqP (ZbD n) ([]++n.sws.map Ne.swI++n.brs.map brI) n.gens hr (by simp only[List.length_append,List.length_nil];omega) (by omega)
 have l4:=Zra (ZbD n) ([]++n.sws.map Ne.swI++n.brs.map brI++n.gens.map geI) n.loads hr (by simp only[List.length_append,List.length_nil];omega) (by omega)
 have l5:=Zry (ZbD n) ([]++n.sws.map Ne.swI++n.brs.map brI++n.gens.map geI++n.loads.map loI) n.stores hr (by simp only[List.length_append,List.length_nil];omega) (by omega)
 refine Zae ?_
 refine Zbs ?_
 refine Zab ?_
 refine Zad ?_
 refine Zae ?_
 refine Zab ?_
 refine Zad ?_
 refine Zae ?_
 refine Zab ?_
 refine Zal rfl (fun _=>rfl) rfl rfl rfl ?_
 iterate 2 refine Zab ?_
 refine Zad ?_
 refine(l1.ent ?_).through ?_
 ·refine Ent.trans (tm1:=[(1, .ptr 0 0 0),(3, .nils),(15, .v (.l Ztw) n.sws),(16,nt n.sws.length),(17,nt 0)]) (hp1:=[.cell (ZbD n) true]) (Zah ⟨rfl,rfl,rfl,rfl,rfl,trivial⟩) ?_
  refine ZiZ (k:=3) (Nat.zero_le _) rfl (fun a V ha h=> ?_) rfl
  have hb:Nat.beq a 3=false:=by
   cases hb:Nat.beq a 3 with
   |true=>exact absurd (Nat.eq_of_beq_eq_true hb) ha
   |false=>rfl
  simp only[wSw,Zcp,hb]at h⊢
  exact h
 rintro _ tm hp' ⟨rfl,hE⟩
 refine⟨_,_,hE, ?_⟩
 show wp _ _ _ _ _ _ _ _ _
 refine Zae ?_
 refine Zab ?_
 refine Zal rfl (fun _=>rfl) rfl rfl rfl ?_
 iterate 2 refine Zab ?_
 refine Zad ?_
 refine(l2.ent ?_).through ?_
 ·exact Zah ⟨rfl,rfl,rfl,rfl,rfl,trivial⟩
 rintro _ tm hp' ⟨rfl,hE⟩
 refine⟨_,_,hE, ?_⟩
 show wp _ _ _ _ _ _ _ _ _
 refine Zae ?_
 refine Zab ?_
 refine Zal rfl (fun _=>rfl) rfl rfl rfl ?_
 iterate 2 refine Zab ?_
 refine Zad ?_
 refine(l3.ent ?_).through ?_
 ·exact Zah ⟨rfl,rfl,rfl,rfl,rfl,trivial⟩
 rintro _ tm hp' ⟨rfl,hE⟩
 refine⟨_,_,hE, ?_⟩
 show wp _ _ _ _ _ _ _ _ _
 refine Zae ?_
 refine Zab ?_
 refine Zal rfl (fun _=>rfl) rfl rfl rfl ?_
 iterate 2 refine Zab ?_
 refine Zad ?_
 refine(l4.ent ?_).through ?_
 ·exact Zah ⟨rfl,rfl,rfl,rfl,rfl,trivial⟩
 rintro _ tm hp' ⟨rfl,hE⟩
 refine⟨_,_,hE, ?_⟩
 show wp _ _ _ _ _ _ _ _ _
 refine Zae ?_
 refine Zab ?_
 refine Zal rfl (fun _=>rfl) rfl rfl rfl ?_
 iterate 2 refine Zab ?_
 refine Zad ?_
 refine(l5.ent ?_).through ?_
 ·exact Zah ⟨rfl,rfl,rfl,rfl,rfl,trivial⟩
 rintro _ tm hp' ⟨rfl,hE⟩
 refine⟨_,_,hE, ?_⟩
 show wp _ _ _ _ _ _ _ _ _
 refine Zae ?_
 iterate 2 refine Zab ?_
 refine Zad ?_
 refine⟨Nat.le_of_eq (Nat.zero_add _), ?_⟩
 exact congrArg (fun z=>SV.v (.l ZfB) z) ((Zfs rfl).trans (by simp only[List.nil_append,List.append_assoc];rfl))
end Go.Proofs.YtgmjnhiakpcpbaaGreatDoor
