/-
 The name and the nodes of a device.
-/
import Derived.Test.YtkhpbclcfldhmaaGreatDoorU2
set_option linter.constructorNameAsVariable false
set_option linter.unusedSimpArgs false
set_option linter.unusedVariables false
namespace Go.Proofs.YtkhpbclcfldhmaaGreatDoor
open Go.Am Go.Tx Ne
set_option maxRecDepth 100000
theorem Zl0 (s:Txt): ∀ks:List Txt,ZqG s ks=Zfc s ks
 | []=>rfl
 |k::r=>by rw[ZqG,Zfc,Zl0 s r]
abbrev Zeh (name:Txt) (ns:List Txt):Ne.Item:=(name,ns,decide (ns.length=2),false)
theorem Zpy {α:Type} {l r:List α} {i:Nat} {x y:α} (h:nth l i=some y):(l++r).set i x=l.set i x++r:=by
 rw[List.set_append_left _ _ (Zrc h)]
theorem Zk2 {α:Type} {l r:List α} {i:Nat} {y:α} (h:nth l i=some y):nth (l++r) i=some y:=by
 have h1:=Zrc h
 rw[Za5]at h⊢
 rw[List.getElem?_append_left h1,h]
theorem Znt {α:Type} {a:List α} {x:α} {r:List α}:nth (a++x::r) a.length=some x:=by
 rw[Za5,List.getElem?_append_right (Nat.le_refl _),Nat.sub_self];rfl
theorem Zis {P:Program} {h:Hints} {T:TypeId→TI} {F:Nat} {c:Cx} {b:Code} {tm:TM} {hp hp':List SM} {k:Ex→TM→List SM→Prop} (e:hp=hp') (hw:wp P h T F c b tm hp' k):wp P h T F c b tm hp k:=e▸hw
def vDv (nodes:List Txt) (L rid n i:Nat):TM:=[(2, .ref rid 0 n none),(3, .ptr L 0 0),(21, .ref rid 0 n none),(22,nt n),(23,nt i)]
set_option maxHeartbeats 16000000 in
theorem Zux (hp:List SM) (mid L rid base:Nat) (nodes ns:List Txt) (hn:nodes.length≤1000) (hns:ns.length≤1000) (hL:nth hp L=some (.cell [.mp mid, .v (.l .s) nodes] true)) (hr:nth hp rid=some (.row .s ns true)) (F:Nat):
 LoopOK Tryz.prog Zao F ⟨29,base,45⟩ (Zbw Tryz.f29 7) (vDv nodes L rid ns.length 0) hp
 (fun e tm hp'=>(e= .exit 1∧(ns.all fun s=>Zfc s nodes)=true∧Ent F tm hp' [(2, .ref rid 0 ns.length none),(3, .ptr L 0 0)] hp)∨(e= .ret∧(ns.all fun s=>Zfc s nodes)=false∧Ent F tm hp' [(6, .v (.i .i64) (6:Int))] hp)):=by
 refine Zaz Zah rfl (vDv nodes L rid ns.length) (fun _=>hp) (fun i=>i≤ns.length∧(ns.all fun s=>Zfc s nodes)=((ns.drop i).all fun s=>Zfc s nodes)) (fun i=>ns.length-i) ?_ 0 ⟨Nat.zero_le _,rfl⟩ ZaU
 rintro i ⟨hi,he⟩
 cases h1:decide ((i:Int)<(ns.length:Int))with
 |false=>
  have e:i=ns.length:=by have:=of_decide_eq_false h1;omega
  refine Zag ?_
  refine Zab ?_
  refine Zaf ?_
  refine brF h1 ?_
  exact .inl ⟨rfl,by rw[he,e,List.drop_length];rfl,Zaq ⟨rfl,rfl,trivial⟩⟩
 |true=>
  have hlt:i<ns.length:=by have:=of_decide_eq_true h1;omega
  have ci:=cin hlt
  have gx:ns[0+(i:Int).toNat]? =some ns[i]:=by rw[Int.toNat_natCast,Nat.zero_add];exact List.getElem?_eq_getElem hlt
  have ed:((ns.drop i).all fun s=>Zfc s nodes)=(Zfc ns[i] nodes&&(ns.drop (i+1)).all fun s=>Zfc s nodes):=by rw[List.drop_eq_getElem_cons hlt,List.all_cons]
  obtain⟨x,ex⟩: ∃x,ns[i]=x:=⟨_,rfl⟩
  rw[ex]at gx ed
  have hC:=ZpN nodes x hn
  refine Zag ?_
  refine Zab ?_
  refine Zaf ?_
  refine brT h1 ?_
  refine Zag ?_
  refine Zad rfl (ZaM rfl rfl rfl rfl rfl hr rfl ci ?_)
  refine Zaa rfl rfl ?_
  refine Zad rfl (Zbb rfl rfl hr gx rfl ?_)
  refine Zaa rfl rfl ?_
  refine Zab ?_
  refine Zaf ?_
  cases h2:Zfc x nodes with
  |true=>
   rw[h2]at hC ed
   refine Zag ?_
   refine Zab ?_
   refine Zad rfl (Zcb rfl rfl hL rfl rfl ?_)
   refine Zaa rfl rfl ?_
   refine Zab ?_
   refine Zad rfl ((hC).mono ?_)
   rintro _ rfl
   refine Zaa rfl rfl ?_
   refine Zab ?_
   refine Zaf ?_
   refine brF rfl ?_
   refine Zag ?_
   iterate 2 refine Zab ?_
   refine Zaf ?_
   refine⟨i+1,⟨hlt,he.trans ed⟩,by show ns.length-(i+1)<ns.length-i;omega, ?_⟩
   exact Zaq ⟨rfl,rfl,rfl,rfl,congrArg (fun x=>some (SV.v (.i .i64) x)) (Zc6 (by omega)),trivial⟩
  |false=>
   rw[h2]at hC ed
   refine Zag ?_
   refine Zab ?_
   refine Zad rfl (Zcb rfl rfl hL rfl rfl ?_)
   refine Zaa rfl rfl ?_
   refine Zab ?_
   refine Zad rfl ((hC).mono ?_)
   rintro _ rfl
   refine Zaa rfl rfl ?_
   refine Zab ?_
   refine Zaf ?_
   refine brT rfl ?_
   refine Zag ?_
   refine Zab ?_
   refine Zaf ?_
   refine Za9 ?_
   repeat (first|refine ZaT ?_|refine ZaS ?_|refine ZaH ?_)
   exact .inr ⟨rfl,he.trans ed,Zaq ⟨rfl,trivial⟩⟩
def ZzE (hp:List SM) (mid:Nat) (nodes ks:List Txt) (name:Txt) (ns:List Txt) (V:SV) (hp':List SM):Prop:=
 V= .v (.i .i64) (Zbv nodes ks (Zeh name ns))∧(Zbv nodes ks (Zeh name ns)=0→ ∃ex,hp'=hp.set mid (.set (ks++ [name]))++ex)
theorem Zpw {nodes ks:List Txt} {it:Ne.Item} (h:ZbJ it.1=false):Zbv nodes ks it=5:=by rw[Zbv,h];rfl
theorem Zoh {nodes ks:List Txt} {it:Ne.Item} (h:ZbJ it.1=true) (h2:Zfc it.1 ks=true):Zbv nodes ks it=7:=by rw[Zbv,h,h2];rfl
theorem ZuC {nodes ks:List Txt} {it:Ne.Item} (h:ZbJ it.1=true) (h2:Zfc it.1 ks=false) (h3:(it.2.1.all fun s=>Zfc s nodes)=false):Zbv nodes ks it=6:=by rw[Zbv,h,h2,h3];rfl
theorem Zmx {nodes ks:List Txt} {it:Ne.Item} (h:ZbJ it.1=true) (h2:Zfc it.1 ks=false) (h3:(it.2.1.all fun s=>Zfc s nodes)=true):Zbv nodes ks it=bif it.2.2.1&&(it.2.1.getD 0 []==it.2.1.getD 1 [])then 3 else bif it.2.2.2 then 4 else 0:=by rw[Zbv,h,h2,h3];rfl
set_option maxHeartbeats 32000000 in
theorem ZfW (hp:List SM) (mid rid:Nat) (nodes ks:List Txt) (name:Txt) (ns:List Txt) (hs:name.length≤9223372036854775806) (hn:nodes.length≤1000) (hns:ns.length≤1000) (hm:nth hp mid=some (.set ks)) (hr:nth hp rid=some (.row .s ns true)) (hne:rid≠mid):
 OpenOK Tryz.prog Zao 29 [.agg [.mp mid, .v (.l .s) nodes], .v .s name, .ref rid 0 ns.length none] hp (ZzE hp mid nodes ks name ns):=by
 refine ZiE (fn:=Tryz.f29) (code:=Zdg Tryz.f29) Zah (by kernel_rfl) Tryz.func29 (by kernel_rfl) (Nat.le_of_ble_eq_true (by kernel_rfl)) ?_
 intro base
 have hN:=Zu8 name hs
 have hLc:nth (hp++ [SM.cell [.mp mid, .v (.l .s) nodes] true]) hp.length=some (.cell [.mp mid, .v (.l .s) nodes] true):=Znt
 have hm1:nth (hp++ [SM.cell [.mp mid, .v (.l .s) nodes] true]) mid=some (.set ks):=Zk2 hm
 cases h1:ZbJ name with
 |false=>
  rw[h1]at hN
  have eD:=Zpw (nodes:=nodes) (ks:=ks) (it:=Zeh name ns) h1
  refine Zag ?_
  refine Zbq ?_
  refine Zab ?_
  refine Zaf ?_
  refine Zag ?_
  refine Zab ?_
  refine Zad rfl ((hN).mono ?_)
  rintro _ rfl
  refine Zaa rfl rfl ?_
  iterate 2 refine Zab ?_
  refine Zaf ?_
  refine brT rfl ?_
  refine Zag ?_
  refine Zab ?_
  refine Zaf ?_
  exact⟨congrArg (fun x=>SV.v (.i .i64) x) eD.symm,fun h=>by rw[eD]at h;cases h⟩
 |true=>
  rw[h1]at hN
  cases h2:ZqG name ks with
  |true=>
   have eD:=Zoh (nodes:=nodes) (it:=Zeh name ns) h1 ((Zl0 name ks).symm.trans h2)
   refine Zag ?_
   refine Zbq ?_
   refine Zab ?_
   refine Zaf ?_
   refine Zag ?_
   refine Zab ?_
   refine Zad rfl ((hN).mono ?_)
   rintro _ rfl
   refine Zaa rfl rfl ?_
   iterate 2 refine Zab ?_
   refine Zaf ?_
   refine brF rfl ?_
   refine Zag ?_
   refine Zab ?_
   refine Zad rfl (Zcb rfl rfl hLc rfl rfl ?_)
   refine Zaa rfl rfl ?_
   refine Zab ?_
   refine Zad rfl (ZyM rfl rfl rfl rfl hm1 ?_)
   refine Zaa rfl rfl ?_
   refine Zab ?_
   refine Zaf ?_
   refine brT h2 ?_
   refine Zag ?_
   refine Zab ?_
   refine Zaf ?_
   exact⟨congrArg (fun x=>SV.v (.i .i64) x) eD.symm,fun h=>by rw[eD]at h;cases h⟩
  |false=>
   have h2':Zfc name ks=false:=(Zl0 name ks).symm.trans h2
   have hset:(hp++ [SM.cell [.mp mid, .v (.l .s) nodes] true]).set mid (.set (ZtB name ks))=hp.set mid (.set (ks++ [name]))++ [.cell [.mp mid, .v (.l .s) nodes] true]:=by rw[Zpy hm,Zko h2]
   have hL2:nth (hp.set mid (.set (ks++ [name]))++ [SM.cell [.mp mid, .v (.l .s) nodes] true]) hp.length=some (.cell [.mp mid, .v (.l .s) nodes] true):=by
    have:=Znt (a:=hp.set mid (SM.set (ks++ [name]))) (x:=SM.cell [.mp mid, .v (.l .s) nodes] true) (r:=[])
    rwa[List.length_set]at this
   have hr2:nth (hp.set mid (.set (ks++ [name]))++ [SM.cell [.mp mid, .v (.l .s) nodes] true]) rid=some (.row .s ns true):=Zk2 (by rw[ZrW fun e=>hne e.symm];exact hr)
   have hloop:=Zux (hp.set mid (.set (ks++ [name]))++ [SM.cell [.mp mid, .v (.l .s) nodes] true]) mid hp.length rid base nodes ns hn hns hL2 hr2 hp.length
   have hall:=Zmx (nodes:=nodes) (it:=Zeh name ns) h1 h2'
   have hnam:=ZuC (nodes:=nodes) (it:=Zeh name ns) h1 h2'
   refine Zag ?_
   refine Zbq ?_
   refine Zab ?_
   refine Zaf ?_
   refine Zag ?_
   refine Zab ?_
   refine Zad rfl ((hN).mono ?_)
   rintro _ rfl
   refine Zaa rfl rfl ?_
   iterate 2 refine Zab ?_
   refine Zaf ?_
   refine brF rfl ?_
   refine Zag ?_
   refine Zab ?_
   refine Zad rfl (Zcb rfl rfl hLc rfl rfl ?_)
   refine Zaa rfl rfl ?_
   refine Zab ?_
   refine Zad rfl (ZyM rfl rfl rfl rfl hm1 ?_)
   refine Zaa rfl rfl ?_
   refine Zab ?_
   refine Zaf ?_
   refine brF h2 ?_
   refine Zag ?_
   refine Zab ?_
   refine Zad rfl (Zcb rfl rfl hLc rfl rfl ?_)
   refine Zaa rfl rfl ?_
   refine Zab ?_
   refine Zad rfl (Zzx rfl rfl rfl rfl rfl hm1 ?_)
   refine Zau rfl ?_
   refine Zaf ?_
   refine Zag ?_
   iterate 3 refine Zab ?_
   refine Zaf ?_
   refine Zis hset ?_
   refine(hloop.ent ?_).through ?_
   ·exact Zaq ⟨rfl,rfl,rfl,rfl,rfl,trivial⟩
   rintro _ tm hp' (⟨rfl,ha,hE⟩|⟨rfl,ha,hE⟩)
   ·refine⟨_,_,hE, ?_⟩
    show wp _ _ _ _ _ _ _ _ _
    have eD:=hall ha
    match ns,hns,hr,hr2,ha,eD with
    | [a,b],_,_,hr2,ha,eD=>
     have c0:(0:Int)≤(0:Int)∧(0:Int)<((2:Nat):Int):=by omega
     have c1:(0:Int)≤(1:Int)∧(1:Int)<((2:Nat):Int):=by omega
     have eD:Zbv nodes ks (Zeh name [a,b])=bif a==b then 3 else 0:=eD
     cases h5:(a==b)with
     |true=>
      rw[h5]at eD
      refine Zag ?_
      iterate 4 refine Zab ?_
      refine Zac rfl ?_
      refine Zaw rfl rfl rfl rfl (ZaM rfl rfl rfl rfl rfl hr2 rfl c0 ?_)
      refine Zaa rfl rfl ?_
      refine Zaw rfl rfl rfl rfl (Zbb rfl rfl hr2 rfl rfl ?_)
      refine Zaa rfl rfl ?_
      refine Zac rfl ?_
      refine Zaw rfl rfl rfl rfl (ZaM rfl rfl rfl rfl rfl hr2 rfl c1 ?_)
      refine Zaa rfl rfl ?_
      refine Zaw rfl rfl rfl rfl (Zbb rfl rfl hr2 rfl rfl ?_)
      refine Zaa rfl rfl ?_
      refine Zac rfl ?_
      refine ZaK rfl ?_
      refine Zaf ?_
      refine brT h5 ?_
      refine Zag ?_
      refine Zab ?_
      refine Zaf ?_
      exact⟨congrArg (fun x=>SV.v (.i .i64) x) eD.symm,fun h=>by rw[eD]at h;cases h⟩
     |false=>
      rw[h5]at eD
      refine Zag ?_
      iterate 4 refine Zab ?_
      refine Zac rfl ?_
      refine Zaw rfl rfl rfl rfl (ZaM rfl rfl rfl rfl rfl hr2 rfl c0 ?_)
      refine Zaa rfl rfl ?_
      refine Zaw rfl rfl rfl rfl (Zbb rfl rfl hr2 rfl rfl ?_)
      refine Zaa rfl rfl ?_
      refine Zac rfl ?_
      refine Zaw rfl rfl rfl rfl (ZaM rfl rfl rfl rfl rfl hr2 rfl c1 ?_)
      refine Zaa rfl rfl ?_
      refine Zaw rfl rfl rfl rfl (Zbb rfl rfl hr2 rfl rfl ?_)
      refine Zaa rfl rfl ?_
      refine Zac rfl ?_
      refine ZaK rfl ?_
      refine Zaf ?_
      refine brF h5 ?_
      refine Zag ?_
      refine Zab ?_
      refine Zaf ?_
      exact⟨congrArg (fun x=>SV.v (.i .i64) x) eD.symm,fun _=>⟨_,rfl⟩⟩
    | [],_,_,_,_,eD=>
     refine Zag ?_
     iterate 4 refine Zab ?_
     refine Zap rfl ?_
     refine Zap rfl ?_
     refine Zap rfl ?_
     refine Zap rfl ?_
     refine Zap rfl ?_
     refine Zap rfl ?_
     refine Zap rfl ?_
     refine Zat rfl ?_
     refine Zaf ?_
     refine brF rfl ?_
     refine Zag ?_
     refine Zab ?_
     refine Zaf ?_
     exact⟨congrArg (fun x=>SV.v (.i .i64) x) eD.symm,fun _=>⟨_,rfl⟩⟩
    | [_],_,_,_,_,eD=>
     refine Zag ?_
     iterate 4 refine Zab ?_
     refine Zap rfl ?_
     refine Zap rfl ?_
     refine Zap rfl ?_
     refine Zap rfl ?_
     refine Zap rfl ?_
     refine Zap rfl ?_
     refine Zap rfl ?_
     refine Zat rfl ?_
     refine Zaf ?_
     refine brF rfl ?_
     refine Zag ?_
     refine Zab ?_
     refine Zaf ?_
     exact⟨congrArg (fun x=>SV.v (.i .i64) x) eD.symm,fun _=>⟨_,rfl⟩⟩
    |a::b::c::r,_,_,_,_,eD=>
     have h6:decide (((a::b::c::r).length:Int)=(2:Int))=false:=by rw[decide_eq_false_iff_not,List.length_cons,List.length_cons,List.length_cons];omega
     have h7:decide ((a::b::c::r).length=2)=false:=by rw[decide_eq_false_iff_not,List.length_cons,List.length_cons,List.length_cons];omega
     have eD:Zbv nodes ks (Zeh name (a::b::c::r))=0:=by rw[eD];show(bif decide ((a::b::c::r).length=2)&&_ then(3:Int)else _)=0;rw[h7];rfl
     refine Zag ?_
     iterate 4 refine Zab ?_
     refine Zap h6 ?_
     refine Zap h6 ?_
     refine Zap h6 ?_
     refine Zap h6 ?_
     refine Zap h6 ?_
     refine Zap h6 ?_
     refine Zap h6 ?_
     refine Zat h6 ?_
     refine Zaf ?_
     refine brF rfl ?_
     refine Zag ?_
     refine Zab ?_
     refine Zaf ?_
     exact⟨congrArg (fun x=>SV.v (.i .i64) x) eD.symm,fun _=>⟨_,rfl⟩⟩
   ·have eD:=hnam ha
    refine⟨_,_,hE, ?_⟩
    exact⟨congrArg (fun x=>SV.v (.i .i64) x) eD.symm,fun h=>by rw[eD]at h;cases h⟩
end Go.Proofs.YtkhpbclcfldhmaaGreatDoor
