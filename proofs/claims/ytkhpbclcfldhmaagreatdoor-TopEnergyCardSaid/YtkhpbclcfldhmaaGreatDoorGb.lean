/-
 The topology of a network: station.Buses, topology.Get.
-/
import Derived.Test.YtkhpbclcfldhmaaGreatDoorGa
import Derived.Test.YtkhpbclcfldhmaaGreatDoorU6
set_option linter.constructorNameAsVariable false
set_option linter.unusedSimpArgs false
set_option linter.unusedVariables false
namespace Go.Proofs.YtkhpbclcfldhmaaGreatDoor
open Go.Am Go.Tx Ne
set_option maxRecDepth 100000
theorem Zij {F:Nat} {hp:List SM} {tm r:TM} {k:Nat} {ct:CT} (hF:F≤hp.length) (hk:ZcR k tm=some .nils) (hr:ZyE tm r):Ent F tm hp ((k, .ref hp.length 0 0 none)::r) (hp++ [.row ct [] true]):=by
 refine⟨fun φ st hFφ hs=> ?_⟩
 have hlen:=hs.hp.len
 have ext: ∀id,id<hp.length→(φ++ [none])[id]? =φ[id]? :=fun id h=>List.getElem?_append_left (by omega)
 have le:Le φ (φ++ [none]):=fun id o h=>by rw[List.getElem?_append_left (List.getElem?_eq_some_iff.1 h).1];exact h
 have new:(φ++ [(none:Option Nat)])[hp.length]? =some none:=by rw[List.getElem?_append_right (by omega),hlen,Nat.sub_self];rfl
 refine⟨φ++ [none],fun id hid=>ext id (by omega), ?_, ?_⟩
 ·intro i V hV
  simp only[ZcR]at hV
  cases e:Nat.beq i k with
  |true=>
   rw[e]at hV
   have:=Nat.eq_of_beq_eq_true e
   subst this
   cases hV
   obtain⟨q,h1,h2⟩:=hs.tm _ _ hk
   refine⟨q,h1, ?_⟩
   simp only[RV]at h2⊢
   subst h2
   exact .inr ⟨new,rfl,trivial,trivial,rfl⟩
  |false=>
   rw[e]at hV
   obtain⟨q,h1,h2⟩:=hs.tm _ _ (ZkK hr hV)
   exact⟨q,h1,RV.mono le _ _ h2⟩
 ·refine⟨by simp[hlen], ?_, ?_⟩
  ·intro id sm o hsm ho
   by_cases hid:id<hp.length
   ·rw[List.getElem?_append_left hid]at hsm
    rw[ext id hid]at ho
    exact RM.mono le (fun _ _ _=>rfl) (hs.hp.row id sm o hsm ho)
   ·have hidl:=(List.getElem?_eq_some_iff.1 hsm).1
    simp at hidl
    have e:id=hp.length:=by omega
    subst e
    rw[List.getElem?_append_right (Nat.le_refl _),Nat.sub_self]at hsm
    cases hsm
    rw[new]at ho;cases ho
    rfl
  ·intro id id' sm sm' a hne h1 h2 h3 h4 h5 h6
   have lt: ∀id sm,(hp++ [SM.row ct [] true])[id]? =some sm→(φ++ [none])[id]? =some (some a)→id<hp.length:=by
    intro id sm h1 h5
    rcases Nat.lt_or_ge id hp.length with h|h
    ·exact h
    ·have hidl:=(List.getElem?_eq_some_iff.1 h1).1
     simp at hidl
     have e:id=hp.length:=by omega
     subst e
     rw[new]at h5;cases h5
   have l1:=lt id sm h1 h5
   have l2:=lt id' sm' h2 h6
   rw[List.getElem?_append_left l1]at h1
   rw[List.getElem?_append_left l2]at h2
   rw[ext id l1]at h5
   rw[ext id' l2]at h6
   exact hs.hp.inj id id' sm sm' a hne h1 h2 h3 h4 h5 h6
theorem Zhq {α:Type} {l:List α} {i:Nat} (h:i<l.length): ∃x,l[i]? =some x∧l[(i:Int).toNat]? =some x:=⟨l[i],List.getElem?_eq_getElem h,by rw[Int.toNat_natCast];exact List.getElem?_eq_getElem h⟩
theorem ZdV {α:Type} {l:List α} {i:Nat} {x:α} (h:l[i]? =some x):l.take (i+1)=l.take i++ [x]:=by rw[List.take_add_one,h];rfl
def ZhB (n:Ne.Net) (i:Nat):List (Nat×Nat):=((n.sws.take i).filter Zw2).map (swE n)
def zX (n:Ne.Net) (k i w:Nat):TM:=[(1, .v .b false),(2, .ptr 0 0 0),(6, .ref 1 0 k none),(7, .ref 2 0 w none),(11, .v (.l Zvr) n.sws),(12,nt n.sws.length),(13,nt i)]
def hX (n:Ne.Net) (l:List (Nat×Nat)) (w:List Int):List SM:=[.cell (ZgL n) true, .row E2 (el l) true, .row IC w true]
set_option maxHeartbeats 16000000 in
theorem Zv2 (n:Ne.Net) (hf:Fine n):PureOK Tryz.prog Zao 53 [.agg (ZgL n), .v .b false] (fun V=> ∃w:List Int,V= .tup [.v (.l E2) (el (Zew n)), .v (.l IC) w]):=by
 refine Zae Zah Tryz.func53 ?_
 obtain⟨b1,b2,b3,b4,b5,b6⟩:=Zbl hf
 refine Zag ?_
 refine Zbq ?_
 iterate 2 refine Zab ?_
 refine Zaf ?_
 refine Zag ?_
 refine Zab ?_
 refine Zaf ?_
 refine Zag ?_
 refine Zab ?_
 refine Zaf ?_
 refine Zag ?_
 refine Zab ?_
 refine Zak rfl (fun _=>rfl) rfl rfl rfl ?_
 iterate 2 refine Zab ?_
 refine Zaf ?_
 refine Zaz Zah rfl (fun(a:Nat×List Int)=>zX n (ZhB n a.1).length a.1 a.2.length) (fun a=>hX n (ZhB n a.1) a.2) (fun a=>a.1≤n.sws.length∧a.2.length≤a.1) (fun a=>n.sws.length-a.1) ?_ (0,[]) ⟨Nat.zero_le _,Nat.le_refl _⟩ ?_
 case refine_2=>
  refine(Zij (k:=6) (ct:=E2) (r:=[(1, .v .b false),(2, .ptr 0 0 0),(7, .nils),(11, .v (.l Zvr) n.sws),(12,nt n.sws.length),(13,nt 0)]) (Nat.zero_le _) rfl ⟨rfl,rfl,rfl,rfl,rfl,rfl,trivial⟩).trans ?_
  refine(Zij (k:=7) (ct:=IC) (r:=[(1, .v .b false),(2, .ptr 0 0 0),(6, .ref 1 0 0 none),(11, .v (.l Zvr) n.sws),(12,nt n.sws.length),(13,nt 0)]) (Nat.zero_le _) rfl ⟨rfl,rfl,rfl,rfl,rfl,rfl,trivial⟩).trans ?_
  exact Zaq ⟨rfl,rfl,rfl,rfl,rfl,rfl,rfl,trivial⟩
 rintro⟨i,w⟩ ⟨hi,hw⟩
 simp only at hi hw
 cases h1:decide ((i:Int)<(n.sws.length:Int))with
 |false=>
  have e:i=n.sws.length:=by have:=of_decide_eq_false h1;omega
  have ea:ZhB n i=Zew n:=by rw[ZhB,Zew,e,List.take_length]
  refine Zag ?_
  refine Zab ?_
  refine Zaf ?_
  refine brF h1 ?_
  show wp _ _ _ _ _ _ _ _ _
  refine Zag ?_
  iterate 4 refine Zab ?_
  refine Zaf ?_
  refine⟨by rw[List.length_map];omega,by omega,w, ?_⟩
  rw[ZeU (List.length_map _),ea,ZeU rfl]
 |true=>
  have hlt:i<n.sws.length:=by have:=of_decide_eq_true h1;omega
  obtain⟨x,gx0,gx⟩:=Zhq hlt
  have hd:=Zu6 hf (List.mem_of_getElem? gx0)
  have hA:=Zff n.nodes x.2.1 (by omega)
  have hB:=Zff n.nodes x.2.2.1 (by omega)
  rw[(Zgf hd.1).1]at hA
  rw[(Zgf hd.2).1]at hB
  have hs:ZhB n (i+1)=ZhB n i++(if Zw2 x=true then[swE n x]else[]):=by
   rw[ZhB,ZdV gx0,List.filter_append,List.map_append,ZhB]
   congr 1
   rw[List.filter_cons]
   split<;>rfl
  have hla:(ZhB n i).length≤i:=by
   have:=List.length_filter_le Zw2 (n.sws.take i)
   rw[ZhB,List.length_map]
   rw[List.length_take]at this
   omega
  have w1:=congrArg (fun x=>some (SV.v (.i .i64) x)) (Zc6 (k:=i) (by omega))
  refine Zag ?_
  refine Zab ?_
  refine Zaf ?_
  refine brT h1 ?_
  refine Zag ?_
  refine Zab ?_
  refine Zb4 rfl (fun _=>rfl) (Int.natCast_nonneg i) gx rfl rfl ?_
  refine Zab ?_
  refine Zbq ?_
  refine Zab ?_
  refine Zad rfl (Zax rfl rfl rfl rfl rfl rfl rfl rfl ?_)
  refine Zau rfl ?_
  refine Zaf ?_
  cases h2:Zw2 x with
  |false=>
   have h3:(x.2.2.2.2==false)=false:=h2
   have hs':ZhB n (i+1)=ZhB n i:=by rw[hs,h2];exact List.append_nil _
   refine Zag ?_
   refine Zab ?_
   refine Zak rfl (fun _=>rfl) rfl rfl rfl ?_
   iterate 2 refine Zab ?_
   refine Zaf ?_
   refine brF h3 ?_
   refine Zag ?_
   iterate 2 refine Zab ?_
   refine Zaf ?_
   refine⟨(i+1,w),⟨hlt,by show w.length≤i+1;omega⟩,by show n.sws.length-(i+1)<n.sws.length-i;omega, ?_⟩
   show Ent _ _ _ (zX n (ZhB n (i+1)).length (i+1) w.length) (hX n (ZhB n (i+1)) w)
   rw[hs']
   exact ZaI [0,1,2] ⟨rfl,rfl,rfl,rfl,rfl,rfl,trivial⟩ (by decide) ⟨rfl,ZaA,rfl,ZaZ (by show 0<3;omega),rfl,ZaY (by show 1<3;omega),rfl,ZaY (by show 2<3;omega),rfl,ZaA,rfl,ZaA,w1,ZaA,trivial⟩
  |true=>
   have h3:(x.2.2.2.2==false)=true:=h2
   have hs':ZhB n (i+1)=ZhB n i++ [swE n x]:=by rw[hs,h2];rfl
   have hz1:((ZhB n i).length+1)*16≤140737488355328:=by omega
   have hz2:(w.length+1)*8≤140737488355328:=by omega
   have el1:(ZhB n i).length=(el (ZhB n i)).length:=(List.length_map _).symm
   refine Zag ?_
   refine Zab ?_
   refine Zak rfl (fun _=>rfl) rfl rfl rfl ?_
   iterate 2 refine Zab ?_
   refine Zaf ?_
   refine brT h3 ?_
   refine Zag ?_
   iterate 2 refine Zab ?_
   refine Zak rfl (fun _=>rfl) rfl rfl rfl ?_
   refine Zab ?_
   refine Zak rfl (fun _=>rfl) rfl rfl rfl ?_
   refine Zad rfl ((hA).mono ?_)
   rintro _ rfl
   refine Zaa rfl rfl ?_
   refine Zab ?_
   refine Zak rfl (fun _=>rfl) rfl rfl rfl ?_
   refine Zab ?_
   refine Zak rfl (fun _=>rfl) rfl rfl rfl ?_
   refine Zad rfl ((hB).mono ?_)
   rintro _ rfl
   refine Zaa rfl rfl ?_
   refine Zab ?_
   refine Zbq ?_
   refine Zad rfl (Zh0 rfl rfl rfl rfl rfl rfl rfl rfl rfl rfl rfl el1 hz1 ?_)
   refine Zaa rfl rfl ?_
   refine Zab ?_
   refine Zaf ?_
   refine Zag ?_
   iterate 2 refine Zab ?_
   refine Zbq ?_
   refine Zad rfl (Zh0 rfl rfl rfl rfl rfl rfl rfl rfl rfl rfl rfl rfl hz2 ?_)
   refine Zaa rfl rfl ?_
   refine Zab ?_
   refine Zaf ?_
   refine Zag ?_
   iterate 2 refine Zab ?_
   refine Zaf ?_
   refine⟨(i+1,w++ [(i:Int)]),⟨hlt,by show(w++ [(i:Int)]).length≤i+1;rw[List.length_append,List.length_cons,List.length_nil];omega⟩,by show n.sws.length-(i+1)<n.sws.length-i;omega, ?_⟩
   show Ent _ _ _ (zX n (ZhB n (i+1)).length (i+1) (w++ [(i:Int)]).length) (hX n (ZhB n (i+1)) (w++ [(i:Int)]))
   rw[hs']
   have e5:some (SM.row E2 (el (ZhB n i)++ [(((plN n x.2.1:Nat):Int),((plN n x.2.2.1:Nat):Int))]) true)=some (SM.row E2 (el (ZhB n i++ [swE n x])) true):=by rw[el,el,List.map_append];rfl
   have er:some (SV.ref 5 0 ((ZhB n i).length+1) none)=some (SV.ref 5 0 (ZhB n i++ [swE n x]).length none):=by rw[List.length_append];rfl
   have ew:some (SV.ref 7 0 (w.length+1) none)=some (SV.ref 7 0 (w++ [(i:Int)]).length none):=by rw[List.length_append];rfl
   exact ZaI [0,5,7] ⟨rfl,rfl,e5,rfl,rfl,rfl,trivial⟩ (by decide) ⟨rfl,ZaA,rfl,ZaZ (by show 0<3;omega),er,ZaY (by show 1<3;omega),ew,ZaY (by show 2<3;omega),rfl,ZaA,rfl,ZaA,w1,ZaA,trivial⟩
theorem ZuI (n:Ne.Net) (hf:Fine n):PureOK Tryz.prog Zao 34 [.agg (ZgL n)] (fun V=>V= .v (.l IC) (ZeR n)):=by
 refine Zae Zah Tryz.func34 ?_
 have hE:=Zv2 n hf
 have hC:=Zhp n.nodes.length (Zbl hf).1 (Zew n) (Zjm hf).1 (Zjm hf).2
 refine Zag ?_
 refine Zbq ?_
 refine Zab ?_
 refine Zaf ?_
 refine Zag ?_
 refine Zak rfl (fun _=>rfl) rfl rfl rfl ?_
 refine Zad rfl ((hE).mono ?_)
 rintro _ ⟨w,rfl⟩
 refine Zaa rfl rfl ?_
 iterate 5 refine Zab ?_
 refine Zaf ?_
 refine Zag ?_
 refine Zab ?_
 refine Zak rfl (fun _=>rfl) rfl rfl rfl ?_
 iterate 2 refine Zab ?_
 refine Zad rfl ((hC).mono ?_)
 rintro _ rfl
 refine Zaa rfl rfl ?_
 iterate 5 refine Zab ?_
 refine Zaf ?_
 refine Zag ?_
 iterate 2 refine Zab ?_
 refine Zaf ?_
 rfl
def hT (n:Ne.Net):List SM:=[.cell (ZgL n) true, .cell [.nils, .nils] true, .cell [.v (.l IC) (ZeR n), .nils] true]
set_option maxHeartbeats 16000000 in
theorem Zy4 (n:Ne.Net) (hf:Fine n):LoopOK Tryz.prog Zao 0 ⟨16,0,63⟩ (Zbw Tryz.f16 4) [(1, .ptr 0 0 0),(2, .ptr 1 0 0),(3, .ptr 2 0 0),(4, .v IC (0:Int)),(14, .v (.l IC) (ZeR n)),(15,nt n.nodes.length),(16,nt 0)] (hT n)
 (fun e tm hp=>e= .exit 0∧Ent 0 tm hp [(1, .ptr 0 0 0),(2, .ptr 1 0 0),(3, .ptr 2 0 0),(4,nt (ZcI n))] (hT n)):=by
 obtain⟨b1,_⟩:=Zbl hf
 have hbl:=ZfK n
 refine Zaz Zah rfl (fun(i:Nat)=> [(1, .ptr 0 0 0),(2, .ptr 1 0 0),(3, .ptr 2 0 0),(4, .v IC (Zc3 ((ZeR n).take i))),(14, .v (.l IC) (ZeR n)),(15,nt n.nodes.length),(16,nt i)]) (fun _=>hT n) (fun i=>i≤n.nodes.length) (fun i=>n.nodes.length-i) ?_ 0 (Nat.zero_le _) ZaU
 intro i hi
 cases h1:decide ((i:Int)<(n.nodes.length:Int))with
 |false=>
  have e:i=n.nodes.length:=by have:=of_decide_eq_false h1;omega
  have em:Zc3 ((ZeR n).take i)=(ZcI n:Int):=by rw[List.take_of_length_le (by omega)];exact(Zd5 n).1
  refine Zag ?_
  refine Zab ?_
  refine Zaf ?_
  refine brF h1 ?_
  exact⟨rfl,Zaq ⟨rfl,rfl,rfl,congrArg (fun z=>some (SV.v IC z)) em,trivial⟩⟩
 |true=>
  have hlt:i<n.nodes.length:=by have:=of_decide_eq_true h1;omega
  obtain⟨b,gb,hb⟩:=Zni hlt
  have hm:=(Zd5 n).2
  have gb':(ZeR n)[(i:Int).toNat]? =some (b:Int):=by rw[Int.toNat_natCast];exact gb
  have w1:=congrArg (fun x=>some (SV.v (.i .i64) x)) (Zc6 (k:=i) (by omega))
  have em:some (SV.v IC (if IntKind.i64.wrap ((b:Int)+1)>Zc3 ((ZeR n).take i)then IntKind.i64.wrap ((b:Int)+1)else Zc3 ((ZeR n).take i)))=some (SV.v IC (Zc3 ((ZeR n).take (i+1)))):=by
   rw[ZdV gb,ZjJ,Zar (by omega) (by omega)]
  refine Zag ?_
  refine Zab ?_
  refine Zaf ?_
  refine brT h1 ?_
  refine Zag ?_
  refine Zb4 rfl (fun _=>rfl) (Int.natCast_nonneg i) gb' rfl rfl ?_
  iterate 2 refine Zab ?_
  refine Zaf ?_
  refine Zag ?_
  iterate 5 refine Zab ?_
  refine Zaf ?_
  refine Zag ?_
  iterate 2 refine Zab ?_
  refine Zaf ?_
  exact⟨i+1,hlt,by show n.nodes.length-(i+1)<n.nodes.length-i;omega,Zaq ⟨rfl,rfl,rfl,em,rfl,rfl,w1,trivial⟩⟩
def zB (n:Ne.Net) (i:Nat):TM:=[(7, .ref 3 0 i none),(1, .ptr 0 0 0),(2, .ptr 1 0 0),(3, .ptr 2 0 0),(4,nt (ZcI n)),(26, .v (.l Zys) n.brs),(27,nt n.brs.length),(28,nt i)]
set_option maxHeartbeats 16000000 in
theorem ZvO (n:Ne.Net) (hf:Fine n):PureOK Tryz.prog Zao 16 [.agg (ZgL n)] (fun V=>V= .agg [.v (.l IC) (ZeR n), .v (.l IC) (Zcx n)]):=by
 refine Zae Zah Tryz.func16 ?_
 obtain⟨b1,b2,b3,b4,b5,b6⟩:=Zbl hf
 have hB:=ZuI n hf
 refine Zag ?_
 refine Zbq ?_
 refine Zbq ?_
 refine Zaf ?_
 refine Zag ?_
 refine Zak rfl (fun _=>rfl) rfl rfl rfl ?_
 refine Zad rfl ((hB).mono ?_)
 rintro _ rfl
 refine Zaa rfl rfl ?_
 refine Zab ?_
 refine Zbq ?_
 refine Zad rfl (Zax rfl rfl rfl rfl rfl rfl rfl rfl ?_)
 refine Zau rfl ?_
 refine Zaf ?_
 refine Zag ?_
 refine Zab ?_
 refine Zaf ?_
 refine Zag ?_
 refine Zab ?_
 refine Zak rfl (fun _=>rfl) rfl rfl rfl ?_
 iterate 2 refine Zab ?_
 refine Zaf ?_
 refine((Zy4 n hf).ent ?_).through ?_
 ·exact Zaq ⟨rfl,rfl,rfl,rfl,rfl,congrArg (fun z:Nat=>some (nt z)) (ZfK n),rfl,trivial⟩
 rintro _ tm hp ⟨rfl,hE⟩
 refine⟨_,_,hE, ?_⟩
 show wp _ _ _ _ _ _ _ _ _
 refine Zag ?_
 refine Zab ?_
 refine Zaf ?_
 refine Zag ?_
 refine Zab ?_
 refine Zak rfl (fun _=>rfl) rfl rfl rfl ?_
 iterate 2 refine Zab ?_
 refine Zaf ?_
 refine Zaz Zah rfl (zB n) (fun i=>hT n++ [.row E2 (el ((n.brs.take i).map (brE n))) true]) (fun i=>i≤n.brs.length) (fun i=>n.brs.length-i) ?_ 0 (Nat.zero_le _) ?_
 case refine_2=>exact Zij (k:=7) (ct:=E2) (Nat.zero_le _) rfl ⟨rfl,rfl,rfl,rfl,rfl,rfl,rfl,trivial⟩
 intro i hi
 have hle:(el ((n.brs.take i).map (brE n))).length=i:=by rw[List.length_map,List.length_map,List.length_take];omega
 cases h1:decide ((i:Int)<(n.brs.length:Int))with
 |false=>
  have e:i=n.brs.length:=by have:=of_decide_eq_false h1;omega
  have hC:=Zhp (ZcI n) (Nat.le_trans (Zd5 n).2 b1) (n.brs.map (brE n)) (Zvl hf).1 (Zvl hf).2
  have ea:sub (el ((n.brs.take i).map (brE n))) 0 i=el (n.brs.map (brE n)):=by rw[ZeU hle,List.take_of_length_le (by omega)]
  rw[←ea]at hC
  refine Zag ?_
  refine Zab ?_
  refine Zaf ?_
  refine brF h1 ?_
  show wp _ _ _ _ _ _ _ _ _
  refine Zag ?_
  iterate 2 refine Zab ?_
  refine Zad rfl (ZpR rfl rfl rfl rfl rfl rfl (Zzr (Zok rfl (Nat.le_of_eq ((Nat.zero_add i).trans hle.symm)) (hC.mono ?_))))
  rintro _ rfl
  refine Zaa rfl rfl ?_
  iterate 4 refine Zab ?_
  refine Zad rfl (Zax rfl rfl rfl rfl rfl rfl rfl rfl ?_)
  refine Zau rfl ?_
  refine Zaf ?_
  refine Zag ?_
  refine Zak rfl (fun _=>rfl) rfl rfl rfl ?_
  refine Zad rfl (Zax rfl rfl rfl rfl rfl rfl rfl rfl ?_)
  refine Zau rfl ?_
  refine Zaf ?_
  exact⟨rfl,rfl⟩
 |true=>
  have hlt:i<n.brs.length:=by have:=of_decide_eq_true h1;omega
  obtain⟨x,gx0,gx⟩:=Zhq hlt
  have hd:=Zu9 hf (List.mem_of_getElem? gx0)
  have hA:=Zff n.nodes x.2.1 (by omega)
  have hA2:=Zff n.nodes x.2.2.1 (by omega)
  rw[(Zgf hd.1).1]at hA
  rw[(Zgf hd.2.1).1]at hA2
  have g1:(ZeR n)[((plN n x.2.1:Nat):Int).toNat]? =some ((bAt n x.2.1:Nat):Int):=by rw[Int.toNat_natCast];exact(Zdr hd.1).1
  have g2:(ZeR n)[((plN n x.2.2.1:Nat):Int).toNat]? =some ((bAt n x.2.2.1:Nat):Int):=by rw[Int.toNat_natCast];exact(Zdr hd.2.1).1
  have hz1:(i+1)*16≤140737488355328:=by omega
  have w1:=congrArg (fun x=>some (SV.v (.i .i64) x)) (Zc6 (k:=i) (by omega))
  have e6:some (SM.row E2 (el ((n.brs.take i).map (brE n))++ [(((bAt n x.2.1:Nat):Int),((bAt n x.2.2.1:Nat):Int))]) true)=some (SM.row E2 (el ((n.brs.take (i+1)).map (brE n))) true):=by rw[ZdV gx0,List.map_append,el,el,List.map_append];rfl
  refine Zag ?_
  refine Zab ?_
  refine Zaf ?_
  refine brT h1 ?_
  refine Zag ?_
  refine Zb4 rfl (fun _=>rfl) (Int.natCast_nonneg i) gx rfl rfl ?_
  refine Zab ?_
  refine Zbq ?_
  refine Zad rfl (Zax rfl rfl rfl rfl rfl rfl rfl rfl ?_)
  refine Zau rfl ?_
  refine Zaf ?_
  refine Zag ?_
  iterate 2 refine Zab ?_
  refine Zak rfl (fun _=>rfl) rfl rfl rfl ?_
  refine Zab ?_
  refine Zak rfl (fun _=>rfl) rfl rfl rfl ?_
  refine Zab ?_
  refine Zak rfl (fun _=>rfl) rfl rfl rfl ?_
  refine Zad rfl ((hA).mono ?_)
  rintro _ rfl
  refine Zaa rfl rfl ?_
  refine Zb4 rfl (fun _=>rfl) (Int.natCast_nonneg _) g1 rfl rfl ?_
  iterate 2 refine Zab ?_
  refine Zak rfl (fun _=>rfl) rfl rfl rfl ?_
  refine Zab ?_
  refine Zak rfl (fun _=>rfl) rfl rfl rfl ?_
  refine Zab ?_
  refine Zak rfl (fun _=>rfl) rfl rfl rfl ?_
  refine Zad rfl ((hA2).mono ?_)
  rintro _ rfl
  refine Zaa rfl rfl ?_
  refine Zb4 rfl (fun _=>rfl) (Int.natCast_nonneg _) g2 rfl rfl ?_
  iterate 2 refine Zab ?_
  refine Zbq ?_
  refine Zad rfl (Zh0 rfl rfl rfl rfl rfl rfl rfl rfl rfl rfl rfl hle.symm hz1 ?_)
  refine Zaa rfl rfl ?_
  refine Zab ?_
  refine Zaf ?_
  refine Zag ?_
  iterate 2 refine Zab ?_
  refine Zaf ?_
  refine⟨i+1,hlt,by show n.brs.length-(i+1)<n.brs.length-i;omega, ?_⟩
  exact ZaI [0,1,2,6] ⟨rfl,rfl,rfl,rfl,rfl,rfl,e6,rfl,trivial⟩ (by decide) ⟨rfl,ZaY (by show 3<4;omega),rfl,ZaZ (by show 0<4;omega),rfl,ZaZ (by show 1<4;omega),rfl,ZaZ (by show 2<4;omega),rfl,ZaA,rfl,ZaA,rfl,ZaA,w1,ZaA,trivial⟩
end Go.Proofs.YtkhpbclcfldhmaaGreatDoor
