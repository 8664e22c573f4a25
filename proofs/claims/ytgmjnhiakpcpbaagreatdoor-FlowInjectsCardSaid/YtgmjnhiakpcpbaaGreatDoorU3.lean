/-
 The name and the nodes of a device.
-/
import Derived.Test.YtgmjnhiakpcpbaaGreatDoorU2
set_option linter.constructorNameAsVariable false
set_option linter.unusedSimpArgs false
set_option linter.unusedVariables false
namespace Go.Proofs.YtgmjnhiakpcpbaaGreatDoor
open Go.Am Go.Tx Ne
set_option maxRecDepth 100000
theorem Zj2 (s:Txt): ∀ks:List Txt,Zn8 s ks=ZcA s ks
 | []=>rfl
 |k::r=>by rw[Zn8,ZcA,Zj2 s r]
abbrev ZdG (name:Txt) (ns:List Txt):Ne.Item:=(name,ns,decide (ns.length=2),false)
theorem Zm9 {α:Type} {l r:List α} {i:Nat} {x y:α} (h:nth l i=some y):(l++r).set i x=l.set i x++r:=by
 rw[List.set_append_left _ _ (Zn9 h)]
theorem Zjy {α:Type} {l r:List α} {i:Nat} {y:α} (h:nth l i=some y):nth (l++r) i=some y:=by
 have h1:=Zn9 h
 rw[Za1]at h⊢
 rw[List.getElem?_append_left h1,h]
theorem ZeO {α:Type} {a:List α} {x:α} {r:List α}:nth (a++x::r) a.length=some x:=by
 rw[Za1,List.getElem?_append_right (Nat.le_refl _),Nat.sub_self];rfl
theorem Zto {P:Program} {h:Hints} {T:TypeId→TI} {F:Nat} {c:Cx} {b:Code} {tm:TM} {hp hp':List SM} {k:Ex→TM→List SM→Prop} (e:hp=hp') (hw:wp P h T F c b tm hp' k):wp P h T F c b tm hp k:=e▸hw
def vDv (nodes:List Txt) (L rid n i:Nat):TM:=[(2, .ref rid 0 n none),(3, .ptr L 0 0),(21, .ref rid 0 n none),(22,nt n),(23,nt i)]
set_option maxHeartbeats 16000000 in
theorem ZqU (hp:List SM) (mid L rid base:Nat) (nodes ns:List Txt) (hn:nodes.length≤1000) (hns:ns.length≤1000) (hL:nth hp L=some (.cell [.mp mid, .v (.l .s) nodes] true)) (hr:nth hp rid=some (.row .s ns true)) (F:Nat):
 LoopOK Tryz.prog ZaO F ⟨44,base,45⟩ (Zbd Tryz.f44 7) (vDv nodes L rid ns.length 0) hp
 (fun e tm hp'=>(e= .exit 1∧(ns.all fun s=>ZcA s nodes)=true∧Ent F tm hp' [(2, .ref rid 0 ns.length none),(3, .ptr L 0 0)] hp)∨(e= .ret∧(ns.all fun s=>ZcA s nodes)=false∧Ent F tm hp' [(6, .v (.i .i64) (6:Int))] hp)):=by
 refine ZaH Zaw rfl (vDv nodes L rid ns.length) (fun _=>hp) (fun i=>i≤ns.length∧(ns.all fun s=>ZcA s nodes)=((ns.drop i).all fun s=>ZcA s nodes)) (fun i=>ns.length-i) ?_ 0 ⟨Nat.zero_le _,rfl⟩ ZaW
 rintro i ⟨hi,he⟩
 cases h1:decide ((i:Int)<(ns.length:Int))with
 |false=>
  have e:i=ns.length:=by have:=of_decide_eq_false h1;omega
  refine Zae ?_
  refine Zab ?_
  refine Zad ?_
  refine brF h1 ?_
  exact .inl ⟨rfl,by rw[he,e,List.drop_length];rfl,Zah ⟨rfl,rfl,trivial⟩⟩
 |true=>
  have hlt:i<ns.length:=by have:=of_decide_eq_true h1;omega
  have ci:=cin hlt
  have gx:ns[0+(i:Int).toNat]? =some ns[i]:=by rw[Int.toNat_natCast,Nat.zero_add];exact List.getElem?_eq_getElem hlt
  have ed:((ns.drop i).all fun s=>ZcA s nodes)=(ZcA ns[i] nodes&&(ns.drop (i+1)).all fun s=>ZcA s nodes):=by rw[List.drop_eq_getElem_cons hlt,List.all_cons]
  obtain⟨x,ex⟩: ∃x,ns[i]=x:=⟨_,rfl⟩
  rw[ex]at gx ed
  have hC:=Znx nodes x hn
  refine Zae ?_
  refine Zab ?_
  refine Zad ?_
  refine brT h1 ?_
  refine Zae ?_
  refine Zaf rfl (Zbi rfl rfl rfl rfl rfl hr rfl ci ?_)
  refine Zac rfl rfl ?_
  refine Zaf rfl (Zb7 rfl rfl hr gx rfl ?_)
  refine Zac rfl rfl ?_
  refine Zab ?_
  refine Zad ?_
  cases h2:ZcA x nodes with
  |true=>
   rw[h2]at hC ed
   refine Zae ?_
   refine Zab ?_
   refine Zaf rfl (Zbp rfl rfl hL rfl rfl ?_)
   refine Zac rfl rfl ?_
   refine Zab ?_
   refine Zaf rfl ((hC).mono ?_)
   rintro _ rfl
   refine Zac rfl rfl ?_
   refine Zab ?_
   refine Zad ?_
   refine brF rfl ?_
   refine Zae ?_
   iterate 2 refine Zab ?_
   refine Zad ?_
   refine⟨i+1,⟨hlt,he.trans ed⟩,by show ns.length-(i+1)<ns.length-i;omega, ?_⟩
   exact Zah ⟨rfl,rfl,rfl,rfl,congrArg (fun x=>some (SV.v (.i .i64) x)) (Za5 (by omega)),trivial⟩
  |false=>
   rw[h2]at hC ed
   refine Zae ?_
   refine Zab ?_
   refine Zaf rfl (Zbp rfl rfl hL rfl rfl ?_)
   refine Zac rfl rfl ?_
   refine Zab ?_
   refine Zaf rfl ((hC).mono ?_)
   rintro _ rfl
   refine Zac rfl rfl ?_
   refine Zab ?_
   refine Zad ?_
   refine brT rfl ?_
   refine Zae ?_
   refine Zab ?_
   refine Zad ?_
   refine ZaA ?_
   repeat (first|refine Zau ?_|refine Zav ?_|refine Zar ?_)
   exact .inr ⟨rfl,he.trans ed,Zah ⟨rfl,trivial⟩⟩
def Zvo (hp:List SM) (mid:Nat) (nodes ks:List Txt) (name:Txt) (ns:List Txt) (V:SV) (hp':List SM):Prop:=
 V= .v (.i .i64) (Zba nodes ks (ZdG name ns))∧(Zba nodes ks (ZdG name ns)=0→ ∃ex,hp'=hp.set mid (.set (ks++ [name]))++ex)
theorem ZmV {nodes ks:List Txt} {it:Ne.Item} (h:Za8 it.1=false):Zba nodes ks it=5:=by rw[Zba,h];rfl
theorem Zmf {nodes ks:List Txt} {it:Ne.Item} (h:Za8 it.1=true) (h2:ZcA it.1 ks=true):Zba nodes ks it=7:=by rw[Zba,h,h2];rfl
theorem Zrs {nodes ks:List Txt} {it:Ne.Item} (h:Za8 it.1=true) (h2:ZcA it.1 ks=false) (h3:(it.2.1.all fun s=>ZcA s nodes)=false):Zba nodes ks it=6:=by rw[Zba,h,h2,h3];rfl
theorem Zkt {nodes ks:List Txt} {it:Ne.Item} (h:Za8 it.1=true) (h2:ZcA it.1 ks=false) (h3:(it.2.1.all fun s=>ZcA s nodes)=true):Zba nodes ks it=bif it.2.2.1&&(it.2.1.getD 0 []==it.2.1.getD 1 [])then 3 else bif it.2.2.2 then 4 else 0:=by rw[Zba,h,h2,h3];rfl
set_option maxHeartbeats 32000000 in
theorem ZeU (hp:List SM) (mid rid:Nat) (nodes ks:List Txt) (name:Txt) (ns:List Txt) (hs:name.length≤9223372036854775806) (hn:nodes.length≤1000) (hns:ns.length≤1000) (hm:nth hp mid=some (.set ks)) (hr:nth hp rid=some (.row .s ns true)) (hne:rid≠mid):
 OpenOK Tryz.prog ZaO 44 [.agg [.mp mid, .v (.l .s) nodes], .v .s name, .ref rid 0 ns.length none] hp (Zvo hp mid nodes ks name ns):=by
 refine ZfA (fn:=Tryz.f44) (code:=Zca Tryz.f44) Zaw (by kernel_rfl) Tryz.func44 (by kernel_rfl) (Nat.le_of_ble_eq_true (by kernel_rfl)) ?_
 intro base
 have hN:=ZrU name hs
 have hLc:nth (hp++ [SM.cell [.mp mid, .v (.l .s) nodes] true]) hp.length=some (.cell [.mp mid, .v (.l .s) nodes] true):=ZeO
 have hm1:nth (hp++ [SM.cell [.mp mid, .v (.l .s) nodes] true]) mid=some (.set ks):=Zjy hm
 cases h1:Za8 name with
 |false=>
  rw[h1]at hN
  have eD:=ZmV (nodes:=nodes) (ks:=ks) (it:=ZdG name ns) h1
  refine Zae ?_
  refine Zbs ?_
  refine Zab ?_
  refine Zad ?_
  refine Zae ?_
  refine Zab ?_
  refine Zaf rfl ((hN).mono ?_)
  rintro _ rfl
  refine Zac rfl rfl ?_
  iterate 2 refine Zab ?_
  refine Zad ?_
  refine brT rfl ?_
  refine Zae ?_
  refine Zab ?_
  refine Zad ?_
  exact⟨congrArg (fun x=>SV.v (.i .i64) x) eD.symm,fun h=>by rw[eD]at h;cases h⟩
 |true=>
  rw[h1]at hN
  cases h2:Zn8 name ks with
  |true=>
   have eD:=Zmf (nodes:=nodes) (it:=ZdG name ns) h1 ((Zj2 name ks).symm.trans h2)
   refine Zae ?_
   refine Zbs ?_
   refine Zab ?_
   refine Zad ?_
   refine Zae ?_
   refine Zab ?_
   refine Zaf rfl ((hN).mono ?_)
   rintro _ rfl
   refine Zac rfl rfl ?_
   iterate 2 refine Zab ?_
   refine Zad ?_
   refine brF rfl ?_
   refine Zae ?_
   refine Zab ?_
   refine Zaf rfl (Zbp rfl rfl hLc rfl rfl ?_)
   refine Zac rfl rfl ?_
   refine Zab ?_
   refine Zaf rfl (ZuH rfl rfl rfl rfl hm1 ?_)
   refine Zac rfl rfl ?_
   refine Zab ?_
   refine Zad ?_
   refine brT h2 ?_
   refine Zae ?_
   refine Zab ?_
   refine Zad ?_
   exact⟨congrArg (fun x=>SV.v (.i .i64) x) eD.symm,fun h=>by rw[eD]at h;cases h⟩
  |false=>
   have h2':ZcA name ks=false:=(Zj2 name ks).symm.trans h2
   have hset:(hp++ [SM.cell [.mp mid, .v (.l .s) nodes] true]).set mid (.set (Zq4 name ks))=hp.set mid (.set (ks++ [name]))++ [.cell [.mp mid, .v (.l .s) nodes] true]:=by rw[Zm9 hm,Zji h2]
   have hL2:nth (hp.set mid (.set (ks++ [name]))++ [SM.cell [.mp mid, .v (.l .s) nodes] true]) hp.length=some (.cell [.mp mid, .v (.l .s) nodes] true):=by
    have:=ZeO (a:=hp.set mid (SM.set (ks++ [name]))) (x:=SM.cell [.mp mid, .v (.l .s) nodes] true) (r:=[])
    rwa[List.length_set]at this
   have hr2:nth (hp.set mid (.set (ks++ [name]))++ [SM.cell [.mp mid, .v (.l .s) nodes] true]) rid=some (.row .s ns true):=Zjy (by rw[Zkx fun e=>hne e.symm];exact hr)
   have hloop:=ZqU (hp.set mid (.set (ks++ [name]))++ [SM.cell [.mp mid, .v (.l .s) nodes] true]) mid hp.length rid base nodes ns hn hns hL2 hr2 hp.length
   have hall:=Zkt (nodes:=nodes) (it:=ZdG name ns) h1 h2'
   have hnam:=Zrs (nodes:=nodes) (it:=ZdG name ns) h1 h2'
   refine Zae ?_
   refine Zbs ?_
   refine Zab ?_
   refine Zad ?_
   refine Zae ?_
   refine Zab ?_
   refine Zaf rfl ((hN).mono ?_)
   rintro _ rfl
   refine Zac rfl rfl ?_
   iterate 2 refine Zab ?_
   refine Zad ?_
   refine brF rfl ?_
   refine Zae ?_
   refine Zab ?_
   refine Zaf rfl (Zbp rfl rfl hLc rfl rfl ?_)
   refine Zac rfl rfl ?_
   refine Zab ?_
   refine Zaf rfl (ZuH rfl rfl rfl rfl hm1 ?_)
   refine Zac rfl rfl ?_
   refine Zab ?_
   refine Zad ?_
   refine brF h2 ?_
   refine Zae ?_
   refine Zab ?_
   refine Zaf rfl (Zbp rfl rfl hLc rfl rfl ?_)
   refine Zac rfl rfl ?_
   refine Zab ?_
   refine Zaf rfl (Zvt rfl rfl rfl rfl rfl hm1 ?_)
   refine ZaI rfl ?_
   refine Zad ?_
   refine Zae ?_
   iterate 3 refine Zab ?_
   refine Zad ?_
   refine Zto hset ?_
   refine(hloop.ent ?_).through ?_
   ·exact Zah ⟨rfl,rfl,rfl,rfl,rfl,trivial⟩
   rintro _ tm hp' (⟨rfl,ha,hE⟩|⟨rfl,ha,hE⟩)
   ·refine⟨_,_,hE, ?_⟩
    show wp _ _ _ _ _ _ _ _ _
    have eD:=hall ha
    match ns,hns,hr,hr2,ha,eD with
    | [a,b],_,_,hr2,ha,eD=>
     have c0:(0:Int)≤(0:Int)∧(0:Int)<((2:Nat):Int):=by omega
     have c1:(0:Int)≤(1:Int)∧(1:Int)<((2:Nat):Int):=by omega
     have eD:Zba nodes ks (ZdG name [a,b])=bif a==b then 3 else 0:=eD
     cases h5:(a==b)with
     |true=>
      rw[h5]at eD
      refine Zae ?_
      iterate 4 refine Zab ?_
      refine Zaa rfl ?_
      refine Zao rfl rfl rfl rfl (Zbi rfl rfl rfl rfl rfl hr2 rfl c0 ?_)
      refine Zac rfl rfl ?_
      refine Zao rfl rfl rfl rfl (Zb7 rfl rfl hr2 rfl rfl ?_)
      refine Zac rfl rfl ?_
      refine Zaa rfl ?_
      refine Zao rfl rfl rfl rfl (Zbi rfl rfl rfl rfl rfl hr2 rfl c1 ?_)
      refine Zac rfl rfl ?_
      refine Zao rfl rfl rfl rfl (Zb7 rfl rfl hr2 rfl rfl ?_)
      refine Zac rfl rfl ?_
      refine Zaa rfl ?_
      refine Zaq rfl ?_
      refine Zad ?_
      refine brT h5 ?_
      refine Zae ?_
      refine Zab ?_
      refine Zad ?_
      exact⟨congrArg (fun x=>SV.v (.i .i64) x) eD.symm,fun h=>by rw[eD]at h;cases h⟩
     |false=>
      rw[h5]at eD
      refine Zae ?_
      iterate 4 refine Zab ?_
      refine Zaa rfl ?_
      refine Zao rfl rfl rfl rfl (Zbi rfl rfl rfl rfl rfl hr2 rfl c0 ?_)
      refine Zac rfl rfl ?_
      refine Zao rfl rfl rfl rfl (Zb7 rfl rfl hr2 rfl rfl ?_)
      refine Zac rfl rfl ?_
      refine Zaa rfl ?_
      refine Zao rfl rfl rfl rfl (Zbi rfl rfl rfl rfl rfl hr2 rfl c1 ?_)
      refine Zac rfl rfl ?_
      refine Zao rfl rfl rfl rfl (Zb7 rfl rfl hr2 rfl rfl ?_)
      refine Zac rfl rfl ?_
      refine Zaa rfl ?_
      refine Zaq rfl ?_
      refine Zad ?_
      refine brF h5 ?_
      refine Zae ?_
      refine Zab ?_
      refine Zad ?_
      exact⟨congrArg (fun x=>SV.v (.i .i64) x) eD.symm,fun _=>⟨_,rfl⟩⟩
    | [],_,_,_,_,eD=>
     refine Zae ?_
     iterate 4 refine Zab ?_
     refine Zag rfl ?_
     refine Zag rfl ?_
     refine Zag rfl ?_
     refine Zag rfl ?_
     refine Zag rfl ?_
     refine Zag rfl ?_
     refine Zag rfl ?_
     refine Zap rfl ?_
     refine Zad ?_
     refine brF rfl ?_
     refine Zae ?_
     refine Zab ?_
     refine Zad ?_
     exact⟨congrArg (fun x=>SV.v (.i .i64) x) eD.symm,fun _=>⟨_,rfl⟩⟩
    | [_],_,_,_,_,eD=>
     refine Zae ?_
     iterate 4 refine Zab ?_
     refine Zag rfl ?_
     refine Zag rfl ?_
     refine Zag rfl ?_
     refine Zag rfl ?_
     refine Zag rfl ?_
     refine Zag rfl ?_
     refine Zag rfl ?_
     refine Zap rfl ?_
     refine Zad ?_
     refine brF rfl ?_
     refine Zae ?_
     refine Zab ?_
     refine Zad ?_
     exact⟨congrArg (fun x=>SV.v (.i .i64) x) eD.symm,fun _=>⟨_,rfl⟩⟩
    |a::b::c::r,_,_,_,_,eD=>
     have h6:decide (((a::b::c::r).length:Int)=(2:Int))=false:=by rw[decide_eq_false_iff_not,List.length_cons,List.length_cons,List.length_cons];omega
     have h7:decide ((a::b::c::r).length=2)=false:=by rw[decide_eq_false_iff_not,List.length_cons,List.length_cons,List.length_cons];omega
     have eD:Zba nodes ks (ZdG name (a::b::c::r))=0:=by rw[eD];show(bif decide ((a::b::c::r).length=2)&&_ then(3:Int)else _)=0;rw[h7];rfl
     refine Zae ?_
     iterate 4 refine Zab ?_
     refine Zag h6 ?_
     refine Zag h6 ?_
     refine Zag h6 ?_
     refine Zag h6 ?_
     refine Zag h6 ?_
     refine Zag h6 ?_
     refine Zag h6 ?_
     refine Zap h6 ?_
     refine Zad ?_
     refine brF rfl ?_
     refine Zae ?_
     refine Zab ?_
     refine Zad ?_
     exact⟨congrArg (fun x=>SV.v (.i .i64) x) eD.symm,fun _=>⟨_,rfl⟩⟩
   ·have eD:=hnam ha
    refine⟨_,_,hE, ?_⟩
    exact⟨congrArg (fun x=>SV.v (.i .i64) x) eD.symm,fun h=>by rw[eD]at h;cases h⟩
end Go.Proofs.YtgmjnhiakpcpbaaGreatDoor
